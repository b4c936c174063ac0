-- by a patched copy of the print (wip/tools/patch_print.py)
import Derived.Test.YtknllhfhcgahiaaDoorTFnSupersa
import Derived.ChangeSlices
import Derived.Test.YtknllhfhcgahiaaDoorFacts
import Derived.Test.YtknllhfhcgahiaaDoorRows
import Derived.Test.YtknllhfhcgahiaaDoorMet
import Derived.Test.YtknllhfhcgahiaaDoorTie
import Derived.Test.YtknllhfhcgahiaaDoorCards
import Derived.SevenTiedAt
import Derived.Stop.Joined
import Derived.Test.YtknllhfhcgahiaaDoorPFnSupersx14
import Derived.Test.YtknllhfhcgahiaaDoorPureFnSupers
import Derived.WalkKit
import Derived.ProofKit
import Derived.OpenShut
import Derived.ShutString
import Derived.ChangeOld
import Derived.Below
import Derived.SizedLaws
namespace Go.Proofs.YtknllhfhcgahiaaDoorW.PrintWords
open Go.ChangeShapes Go.WideShapes
/-- A row's slice of whole numbers is no longer than its weight allows. -/
theorem sized_ints {H : Type} {enc : TypeId × Value → H} {P : Program} {W : World} {base : Nat} {spare : Nat → Bool} {held : Bool} {t e : TypeId} {k : IntKind} {a : Option Addr} {len cap : Nat} {d : DataW H} {ps : List MemPlace} {ts : List TypeId} {ds : List (DataW H)} {j : Nat}
    (hsz : (DataW.weightsEach P ts ds).all (· ≤ reachBytes) = true) (ht : ts[j]? = some t) (hd : ds[j]? = some d) (hu : P.underlying t = some (.slice e)) (he : P.underlying e = some (.int k)) (hc : P.cellsOf e = 1) {B : Nat} (hB : P.bytesOf e = B)
    (h : DataW.Trod enc P W base spare held t (.slice a len cap) d ps) : len * B ≤ 140737488351232 := by
  obtain ⟨fuel, hf⟩ := h
  rcases open_ints hu he hc hf with ⟨hcs, _⟩ | ⟨x, l, c, zs, hcs, _, hl, _, hz, hx, _, _⟩
  · simp [Value.cells] at hcs
    obtain ⟨rfl, rfl, rfl⟩ := hcs
    simp
  · simp [Value.cells] at hcs
    obtain ⟨rfl, rfl, rfl⟩ := hcs
    obtain ⟨hx, _⟩ := Prod.mk.inj hx
    subst hx
    have z := sized_slice hsz ht hd hu
    rw [hB] at z
    have hl2 : len ≤ zs.length := by
      rw [hz]
      split
      · exact hl
      · exact Nat.le_refl _
    have h1 : (lits (H := H) k (zs.take len)).length + (lits (H := H) k (zs.drop len)).length = zs.length := by
      simp [lits]
      omega
    rw [h1] at z
    exact Nat.le_trans (Nat.mul_le_mul_right _ hl2) z
end Go.Proofs.YtknllhfhcgahiaaDoorW.PrintWords

namespace Go.Proofs.YtknllhfhcgahiaaDoor.fnSupers
open Go.ChangeShapes Go.WideShapes Go.ChangeAt Go.RowKit
open Go.ChangeMaps (open_string shut_string)
set_option linter.unusedVariables false
theorem own : ownKnob Tryd.prog.godebug = none := by kernel_rfl
theorem laidOut : laidOutB Tryd.prog = true := by kernel_rfl
def IsRow (k : IntKind) (w : World) (a : Option Addr) (len cap : Nat) (zs : List Int) : Prop :=
  (a = none ∧ len = 0 ∧ cap = 0 ∧ zs = []) ∨
  ∃ x, a = some x ∧ len ≤ cap ∧ cap ≤ maxLen ∧ zs.length = cap ∧ (∀ i, i < zs.length → w.cell? (x.add i) = some (.int k (zs.getD i 0))) ∧ ∀ n ∈ zs, (Lit.int k n).wf = true
set_option maxRecDepth 100000 in
theorem lifted (os : Os) (started : os.Started) (H : Type) (enc : TypeId × Value → H) :
    ReturnsInHanded {} Tryd.checked os 17 .any (fun w args => (Rows.fnSupersSpec.pre enc Tryd.prog Tryd.f17 [] false w args ∧ laidMetH Tryd.prog Met.laid w) ∧ sizedMet enc Tryd.prog Tryd.f17 (OpenSpec.ofChange Rows.fnSupersSpec) false w args) (Rows.fnSupersSpec.post enc Tryd.prog Tryd.f17 false true false false) := by
  refine returnsInHanded_of_change_and (C := Tryd.checked) (X := fun w _ => laidMetH Tryd.prog Met.laid w) (fun _ _ _ hh h => h.of_heap hh) own started (by kernel_rfl) Tryd.func17
    (ChangeSpec.witness_shaped (enc := enc) (C := Tryd.checked) (os := os) (X := fun w _ => laidMetH Tryd.prog Met.laid w) false (Met.world os) #[.slice none 0 0] 8 (Met.world_os os) (Met.shaped os _) (by kernel_rfl) (by kernel_rfl) (by kernel_rfl) (Met.met os _)) ?_
  intro W base args ds gs before hval0 hW hcnd hsz0 hL0 _
  have hsz : (DataW.weightsEach Tryd.prog (Tryd.f17.params.toList ++ Rows.fnSupersSpec.plain.varTypes Tryd.prog) (ds ++ gs)).all (· ≤ reachBytes) = true := hsz0
  have hval : ∀ (j : Nat) t v, Tryd.f17.params[j]? = some t → args[j]? = some v → Value.okWide Tryd.prog W .any base t v := hval0
  have hW' := hW
  obtain ⟨p, q, hA0, hV, rfl, hfz, hnd⟩ := hW
  have hA : DataW.TrodAll enc Tryd.prog W 0 (fun _ => true) true Tryd.f17.params.toList args.toList ds p := hA0
  rw [Tryd.params17] at hA hval hsz
  obtain ⟨v0, vs0, d0, ds0, p0, q0, hargs, rfl, rfl, h0, r0⟩ := trodAll_cons hA
  obtain ⟨rfl, rfl, rfl⟩ := trodAll_nil r0
  obtain rfl : args = #[v0] := by cases args; simp_all
  obtain ⟨rfl, rfl⟩ := trodVars_none hV
  obtain ⟨a0, len0, cap0, rfl⟩ := okWide_slice Tryd.underlying29 (hval 0 29 v0 rfl rfl)
  have k0 := h0
  have lt0 : ∀ x ∈ p0, x.block < W.heap.size := by obtain ⟨m, hm⟩ := k0; exact DataW.trod_lt m _ _ _ hm
  obtain ⟨z0, w0⟩ : ∃ zs, IsRow .u8 W a0 len0 cap0 zs := by
    obtain ⟨fuel, hf⟩ := h0
    rcases open_ints Tryd.underlying29 Tryd.underlying5 (by kernel_rfl) hf with ⟨hcs, _⟩ | ⟨x, l, c, zs, hcs, _, hl, hm, hz, _, hcell, hwz⟩
    · simp [Value.cells] at hcs
      obtain ⟨rfl, rfl, rfl⟩ := hcs
      exact ⟨[], .inl ⟨rfl, rfl, rfl, rfl⟩⟩
    · simp [Value.cells] at hcs
      obtain ⟨rfl, rfl, rfl⟩ := hcs
      exact ⟨zs, .inr ⟨_, rfl, hl, hm, by simpa using hz, hcell, hwz⟩⟩
  have y0 : len0 * 1 ≤ 140737488351232 := Go.Proofs.YtknllhfhcgahiaaDoorW.PrintWords.sized_ints hsz (j := 0) (t := 29) rfl rfl Tryd.underlying29 Tryd.underlying5 (by kernel_rfl) (by kernel_rfl) h0
  clear hA0 hval0 hsz0 hsz
  refine (PFnSupers.laws_FnSupers.walk Pure.FnSupers a0 len0 cap0 z0 W w0 y0).mono fun e W' ⟨he, bel⟩ => ?_
  subst he
  exact ⟨_, rfl, _, _, _, [], _, [], hW', trodAll_mk1 (shut_bool Tryd.underlying4 _), (trodAll_cons_mk (Below.trod laidOut (by kernel_rfl) (of_decide_eq_true (by kernel_rfl)) k0 bel lt0) trodAll_mk0), rfl, bel.frame _, fun h => by cases h⟩
theorem b1 : (Rows.fnSupersRow.inPlace == Tryd.prog.inPlace 17) = true := by kernel_rfl
theorem b2 : (Rows.fnSupersRow.unfollowed == Tryd.prog.unfollowed 17) = true := by kernel_rfl
theorem b3 : (Rows.fnSupersRow.recurses == Tryd.prog.recurses 17) = true := by kernel_rfl
theorem b4 : (Rows.fnSupersRow.named == Tryd.prog.varsNamed 17) = true := by kernel_rfl
theorem e1 : (Rows.fnSupersRow.plainKeys == Tryd.prog.plainKeys) = true := by kernel_rfl
theorem e5 : (Rows.fnSupersRow.lifted == Tryd.prog.liftsFinal) = true := by rw [Facts.lifts]; rfl
theorem e6 : (Tryd.prog.make == some Rows.fnSupersRow.make) = true := by rw [Facts.make]; rfl
theorem closed : joinedFacts Tryd.prog 17 Tryd.f17 Rows.fnSupersSpec Rows.fnSupersRow = true :=
  Facts.joined_of (by kernel_rfl) Facts.laid Facts.maps (by kernel_rfl) (by kernel_rfl) rfl Facts.stops rfl Facts.stopKnobs b1 b2 b3 b4 (by kernel_rfl) (by kernel_rfl) (by kernel_rfl) (by kernel_rfl) (by kernel_rfl) (by kernel_rfl) (by kernel_rfl) (by kernel_rfl) (by kernel_rfl) e1 rfl Facts.heard Facts.enter e5 e6 (by kernel_rfl) (by kernel_rfl) (by kernel_rfl) (by kernel_rfl)
theorem over : Rows.fnSupersRow.holds Tryd.pinned (OpenSpec.ofChange Rows.fnSupersSpec) :=
  OpenClaim.holds_of_wide 17 Tryd.f17 rfl rfl rfl rfl rfl rfl rfl ⟨rfl, rfl, rfl, rfl, rfl⟩ rfl rfl rfl rfl rfl (by kernel_rfl) Tryd.func17 closed
    (of_decide_eq_true (by kernel_rfl)) (by unfold Func.isWrapper; first | (rw [if_pos (by decide +kernel)]; kernel_rfl) | (rw [if_neg (by decide +kernel)]; exact ⟨rfl, rfl⟩))
    (fun os started H enc _ => lifted os started H enc)
theorem proved : Rows.FnSupersSaid := over
#print axioms proved
theorem goes : false = Rows.fnSupersRow.goesBy Tryd.prog := by kernel_rfl
theorem wf : Rows.fnSupersRow.wfByText (OpenSpec.ofChange Rows.fnSupersSpec) = true := by kernel_rfl
theorem named : Tryd.prog.funcNamed "loop.example/g00648/laws.FnSupers" = some 17 := by kernel_rfl
theorem carded : Rows.FnSupersCardSaid :=
  Claim7.holds_tied_plain_at .later [] [.data, .pinned] true (true, "2724205c5b33d330592fdd4db0b103600ec031231a21d2fa73314b70c8403806") false
    over (fun _ h => by cases h) wf (fun _ h => by cases h) fnSupers_row_tie rfl ⟨rfl, rfl⟩ Met.mainIs rfl
    (fun f fn hf hfn => by
      obtain rfl : f = 17 := Option.some.inj (named.symm.trans hf) |>.symm
      obtain rfl : fn = Tryd.f17 := (Option.some.inj (Tryd.func17.symm.trans hfn)).symm
      exact ⟨Met.looks, fun j t ht => Met.plain_at Tryd.f17.params (by kernel_rfl) j t ht⟩)
    goes
#print axioms carded
end Go.Proofs.YtknllhfhcgahiaaDoor.fnSupers
namespace Go.Proofs.YtknllhfhcgahiaaDoor
/-- The row, under a short name, for the claim. -/
theorem fnSupers_holds : Rows.FnSupersCardSaid := fnSupers.carded
end Go.Proofs.YtknllhfhcgahiaaDoor
