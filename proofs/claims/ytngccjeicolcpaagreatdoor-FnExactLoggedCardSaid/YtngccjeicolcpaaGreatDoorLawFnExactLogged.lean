-- the row of a law, by wip/lawdev3.py
import Derived.Test.YtngccjeicolcpaaGreatDoorFacts
import Derived.Test.YtngccjeicolcpaaGreatDoorOFnExactLogged
import Derived.Test.YtngccjeicolcpaaGreatDoorRows
import Derived.Test.YtngccjeicolcpaaGreatDoorMet
import Derived.Test.YtngccjeicolcpaaGreatDoorTie
import Derived.Test.YtngccjeicolcpaaGreatDoorCards
import Derived.SevenTiedAt
import Derived.Stop.Joined
import Derived.Test.YtngccjeicolcpaaGreatDoorPFnExactLoggedx15
import Derived.Test.YtngccjeicolcpaaGreatDoorPureFnExactLogged
import Derived.WalkKit
import Derived.ProofKit
import Derived.OpenShut
import Derived.ShutString
import Derived.ChangeOld
import Derived.Below
import Derived.SizedLaws
import Derived.Lib.SmallJoins
namespace Go.Proofs.YtngccjeicolcpaaGreatDoor.fnExactLogged
open Go.Proofs.YtngccjeicolcpaaGreatDoorW.PrintWords
open Go.ChangeShapes Go.WideShapes Go.ChangeAt Go.RowKit Go.Joins
open Go.ChangeMaps (open_string shut_string)
set_option linter.unusedVariables false
theorem own : ownKnob Tryz.prog.godebug = none := by kernel_rfl
theorem laidOut : laidOutB Tryz.prog = true := Facts.laid
theorem openLine : Opens Tryz.prog PFnExactLogged.k103 103 (fun x => (Lit.int .i64 x.f0).wf = true ∧ x.f1.size ≤ maxLen ∧ x.f2.size ≤ maxLen) := by
  have h2 : Tryz.prog.cellsOf 2 = 1 := by kernel_rfl
  have h9 : Tryz.prog.cellsOf 9 = 1 := by kernel_rfl
  unfold PFnExactLogged.k103
  exact Opens.struct3 (w0 := fun (n : Int) => (Lit.int .i64 n).wf = true) (w1 := fun (s : ByteArray) => s.size ≤ maxLen) (w2 := fun (s : ByteArray) => s.size ≤ maxLen) (f0 := { name := "At", type := 2, offset := 0, embedded := false, tag := "", pkgPath := "", byteOffset := 0 }) (f1 := { name := "Data", type := 9, offset := 1, embedded := false, tag := "", pkgPath := "", byteOffset := 8 }) (f2 := { name := "Sent", type := 9, offset := 2, embedded := false, tag := "", pkgPath := "", byteOffset := 24 })
    (fun x => ⟨x.1, x.2.1, x.2.2⟩) (fun _ => rfl) (Opens.int Tryz.underlying2 h2) (Opens.string Tryz.underlying9 h9) (Opens.string Tryz.underlying9 h9) Tryz.underlying103 (by kernel_rfl) rfl rfl rfl
set_option maxRecDepth 100000 in
theorem lifted (os : Os) (started : os.Started) (H : Type) (enc : TypeId × Value → H) :
    ReturnsInHanded {} Tryz.checked os 5 .any (fun w args => (Rows.fnExactLoggedSpec.pre enc Tryz.prog Tryz.f5 [] false w args ∧ laidMetH Tryz.prog Met.laid w) ∧ sizedMet enc Tryz.prog Tryz.f5 (OpenSpec.ofChange Rows.fnExactLoggedSpec) false w args) (Rows.fnExactLoggedSpec.post enc Tryz.prog Tryz.f5 false true false false) := by
  refine returnsInHanded_of_change_and (C := Tryz.checked) (X := fun w _ => laidMetH Tryz.prog Met.laid w) (fun _ _ _ hh h => h.of_heap hh) own started (by kernel_rfl) Tryz.func5
    (ChangeSpec.witness_shaped (enc := enc) (C := Tryz.checked) (os := os) (X := fun w _ => laidMetH Tryz.prog Met.laid w) false (Met.world os) #[.agg #[.int .i64 0, .int .i64 0, .int .i64 0, .slice none 0 0], .agg #[.string ByteArray.empty, .slice none 0 0], .int .i64 0, .string ByteArray.empty] 8 (Met.world_os os) (Met.shaped os _) (by kernel_rfl) (by kernel_rfl) (by kernel_rfl) (Met.met os _)) ?_
  intro W base args ds gs before hval0 hW hcnd hsz0 hL0 _
  have hsz : (DataW.weightsEach Tryz.prog (Tryz.f5.params.toList ++ Rows.fnExactLoggedSpec.plain.varTypes Tryz.prog) (ds ++ gs)).all (· ≤ reachBytes) = true := hsz0
  have hval : ∀ (j : Nat) t v, Tryz.f5.params[j]? = some t → args[j]? = some v → Value.okWide Tryz.prog W .any base t v := hval0
  have hW' := hW
  obtain ⟨p, q, hA0, hV, rfl, hfz, hnd⟩ := hW
  have hA : DataW.TrodAll enc Tryz.prog W 0 (fun _ => true) true Tryz.f5.params.toList args.toList ds p := hA0
  rw [Tryz.params5] at hA hval hsz
  obtain ⟨v0, vs0, d0, ds0, p0, q0, hargs, rfl, rfl, h0, r0⟩ := trodAll_cons hA
  obtain ⟨v1, vs1, d1, ds1, p1, q1, rfl, rfl, rfl, h1, r1⟩ := trodAll_cons r0
  obtain ⟨v2, vs2, d2, ds2, p2, q2, rfl, rfl, rfl, h2, r2⟩ := trodAll_cons r1
  obtain ⟨v3, vs3, d3, ds3, p3, q3, rfl, rfl, rfl, h3, r3⟩ := trodAll_cons r2
  obtain ⟨rfl, rfl, rfl⟩ := trodAll_nil r3
  obtain rfl : args = #[v0, v1, v2, v3] := by cases args; simp_all
  obtain ⟨rfl, rfl⟩ := trodVars_none hV
  have k0 := h0
  have lt0 : ∀ x ∈ p0, x.block < W.heap.size := by obtain ⟨m, hm⟩ := k0; exact DataW.trod_lt m _ _ _ hm
  have hs9_0 : Tryz.prog.cellsOf 9 = 1 := by kernel_rfl
  obtain ⟨u0, v0_1, v0_2, v0_3, z0_0, z0_1, z0_2, z0_3, m0, rfl, rfl, rfl, t0_0, t0_1, t0_2, t0_3⟩ := open_agg4 Tryz.underlying24 (by kernel_rfl) (by kernel_rfl) (hval 0 24 v0 rfl rfl) h0
  obtain ⟨a0_0, e0_0, _, w0_0⟩ := DataW.trod_int Tryz.underlying2 t0_0
  obtain rfl := (List.cons.inj e0_0).1
  have y0_0 : -9223372036854775808 ≤ a0_0 ∧ a0_0 ≤ 9223372036854775807 := by have h_ := w0_0; simp [Lit.wf, IntKind.min, IntKind.max, IntKind.bits, IntKind.signed] at h_; omega
  obtain ⟨a0_1, e0_1, _, w0_1⟩ := DataW.trod_int Tryz.underlying2 t0_1
  obtain rfl := (List.cons.inj e0_1).1
  have y0_1 : -9223372036854775808 ≤ a0_1 ∧ a0_1 ≤ 9223372036854775807 := by have h_ := w0_1; simp [Lit.wf, IntKind.min, IntKind.max, IntKind.bits, IntKind.signed] at h_; omega
  obtain ⟨a0_2, e0_2, _, w0_2⟩ := DataW.trod_int Tryz.underlying2 t0_2
  obtain rfl := (List.cons.inj e0_2).1
  have y0_2 : -9223372036854775808 ≤ a0_2 ∧ a0_2 ≤ 9223372036854775807 := by have h_ := w0_2; simp [Lit.wf, IntKind.min, IntKind.max, IntKind.bits, IntKind.signed] at h_; omega
  obtain ⟨xs0, ⟨A0, c0, ec0, hlc0, hC0⟩, hxl0, hwf0⟩ := (Opens.slice (Opens.string Tryz.underlying9 hs9_0) Tryz.underlying22 (by kernel_rfl)).opens t0_3
  obtain rfl := (List.cons.inj ec0).1
  have k1 := h1
  have lt1 : ∀ x ∈ p1, x.block < W.heap.size := by obtain ⟨m, hm⟩ := k1; exact DataW.trod_lt m _ _ _ hm
  obtain ⟨u1, y1, x1, z1, m1, rfl, rfl, rfl, t1, g1⟩ := open_agg2 Tryz.underlying27 (by kernel_rfl) (by kernel_rfl) (hval 1 27 v1 rfl rfl) h1
  obtain ⟨a1, e1, _, w1⟩ := DataW.trod_string Tryz.underlying9 t1
  obtain rfl := (List.cons.inj e1).1
  obtain ⟨xs1, ⟨A1, c1, ec1, hlc1, hC1⟩, hxl1, _⟩ := (Opens.slice openLine Tryz.underlying25 (by kernel_rfl)).opens g1
  obtain rfl := (List.cons.inj ec1).1
  have k2 := h2
  have lt2 : ∀ x ∈ p2, x.block < W.heap.size := by obtain ⟨m, hm⟩ := k2; exact DataW.trod_lt m _ _ _ hm
  obtain ⟨a2, rfl, rfl, rfl, w2⟩ := open_int Tryz.underlying2 (hval 2 2 v2 rfl rfl) h2
  have y2 : -9223372036854775808 ≤ a2 ∧ a2 ≤ 9223372036854775807 := by have h_ := w2; simp [Lit.wf, IntKind.min, IntKind.max, IntKind.bits, IntKind.signed] at h_; omega
  have k3 := h3
  have lt3 : ∀ x ∈ p3, x.block < W.heap.size := by obtain ⟨m, hm⟩ := k3; exact DataW.trod_lt m _ _ _ hm
  obtain ⟨a3, rfl, rfl, rfl, w3⟩ := open_string Tryz.underlying9 (hval 3 9 v3 rfl rfl) h3
  clear hA0 hval0 hsz0 hsz
  obtain ⟨k, hk⟩ := Pure.FnExactLogged a0_0 a0_1 a0_2 xs0 a1 xs1 a2 a3 y0_0 y0_1 y0_2 (by have := hxl0; unfold maxLen at this; omega) (fun s hs => by have := hwf0 s hs; unfold maxLen at this; omega) (by have := w1; unfold maxLen at this; omega) (by have := hxl1; unfold maxLen at this; omega) y2 (by have := w3; unfold maxLen at this; omega)
  refine (PFnExactLogged.laws_FnExactLogged.calls k a0_0 a0_1 a0_2 A0 c0 xs0 a1 A1 c1 xs1 a2 a3 true W hC0 hlc0 hC1 hlc1 hk).mono fun e W' ⟨he, bel⟩ => ?_
  subst he
  exact ⟨_, rfl, _, _, _, [], _, [], hW', trodAll_mk1 (shut_bool Tryz.underlying4 _), (trodAll_cons_mk (Below.trod laidOut (by kernel_rfl) (of_decide_eq_true (by kernel_rfl)) k0 bel lt0) (trodAll_cons_mk (Below.trod laidOut (by kernel_rfl) (of_decide_eq_true (by kernel_rfl)) k1 bel lt1) (trodAll_cons_mk (Below.trod laidOut (by kernel_rfl) (of_decide_eq_true (by kernel_rfl)) k2 bel lt2) (trodAll_cons_mk (Below.trod laidOut (by kernel_rfl) (of_decide_eq_true (by kernel_rfl)) k3 bel lt3) trodAll_mk0)))), rfl, bel.frame _, fun h => by cases h⟩
theorem b1 : (Rows.fnExactLoggedRow.inPlace == Tryz.prog.inPlace 5) = true := by kernel_rfl
theorem b2 : (Rows.fnExactLoggedRow.unfollowed == Tryz.prog.unfollowed 5) = true := by kernel_rfl
theorem b3 : (Rows.fnExactLoggedRow.recurses == Tryz.prog.recurses 5) = true := by kernel_rfl
theorem b4 : (Rows.fnExactLoggedRow.named == Tryz.prog.varsNamed 5) = true := by kernel_rfl
theorem e1 : (Rows.fnExactLoggedRow.plainKeys == Tryz.prog.plainKeys) = true := by kernel_rfl
theorem e5 : (Rows.fnExactLoggedRow.lifted == Tryz.prog.liftsFinal) = true := by rw [Facts.lifts]; rfl
theorem e6 : (Tryz.prog.make == some Rows.fnExactLoggedRow.make) = true := by rw [Facts.make]; rfl
theorem closed : joinedFacts Tryz.prog 5 Tryz.f5 Rows.fnExactLoggedSpec Rows.fnExactLoggedRow = true :=
  Facts.joined_of (by kernel_rfl) Facts.laid Facts.maps (by kernel_rfl) (by kernel_rfl) rfl Facts.stops rfl Facts.stopKnobs b1 b2 b3 b4 (by kernel_rfl) (by kernel_rfl) (by kernel_rfl) (by kernel_rfl) (by kernel_rfl) (by kernel_rfl) (by kernel_rfl) (by kernel_rfl) (by kernel_rfl) e1 rfl Facts.heard Facts.enter e5 e6 (by kernel_rfl) (by kernel_rfl) (by kernel_rfl) (by kernel_rfl)
theorem over : Rows.fnExactLoggedRow.holds Tryz.pinned (OpenSpec.ofChange Rows.fnExactLoggedSpec) :=
  OpenClaim.holds_of_wide 5 Tryz.f5 rfl rfl rfl rfl rfl rfl rfl ⟨rfl, rfl, rfl, rfl, rfl⟩ rfl rfl rfl rfl rfl (by kernel_rfl) Tryz.func5 closed
    (of_decide_eq_true (by kernel_rfl)) (by unfold Func.isWrapper; first | (rw [if_pos (by decide +kernel)]; kernel_rfl) | (rw [if_neg (by decide +kernel)]; exact ⟨rfl, rfl⟩))
    (fun os started H enc _ => lifted os started H enc)
theorem proved : Rows.FnExactLoggedSaid := over
#print axioms proved
theorem goes : false = Rows.fnExactLoggedRow.goesBy Tryz.prog := by kernel_rfl
theorem wf : Rows.fnExactLoggedRow.wfByText (OpenSpec.ofChange Rows.fnExactLoggedSpec) = true := by kernel_rfl
theorem named : Tryz.prog.funcNamed "loop.example/g00648/laws.FnExactLogged" = some 5 := by kernel_rfl
theorem carded : Rows.FnExactLoggedCardSaid :=
  Claim7.holds_tied_plain_at .later [] [.data, .pinned] true (true, "87ef1adabec95bcc500c293081fbd3922396630c80178f059b228d2d6c94b358") false
    over (fun _ h => by cases h) wf (fun _ h => by cases h) fnExactLogged_row_tie rfl ⟨rfl, rfl⟩ Met.mainIs rfl
    (fun f fn hf hfn => by
      obtain rfl : f = 5 := Option.some.inj (named.symm.trans hf) |>.symm
      obtain rfl : fn = Tryz.f5 := (Option.some.inj (Tryz.func5.symm.trans hfn)).symm
      exact ⟨Met.looks, fun j t ht => Met.plain_at Tryz.f5.params (by kernel_rfl) j t ht⟩)
    goes
#print axioms carded
end Go.Proofs.YtngccjeicolcpaaGreatDoor.fnExactLogged
namespace Go.Proofs.YtngccjeicolcpaaGreatDoor
/-- The row, under a short name, for the claim. -/
theorem fnExactLogged_holds : Rows.FnExactLoggedCardSaid := fnExactLogged.carded
end Go.Proofs.YtngccjeicolcpaaGreatDoor
