-- by a patched copy of the print (wip/tools/patch_print.py)
import Derived.Test.YtngccjeicolcpaaGreatDoorTFnLogFulla
import Derived.ChangeSlices
import Derived.Test.YtngccjeicolcpaaGreatDoorFacts
import Derived.Test.YtngccjeicolcpaaGreatDoorRows
import Derived.Test.YtngccjeicolcpaaGreatDoorMet
import Derived.Test.YtngccjeicolcpaaGreatDoorTie
import Derived.Test.YtngccjeicolcpaaGreatDoorCards
import Derived.SevenTiedAt
import Derived.Stop.Joined
import Derived.Test.YtngccjeicolcpaaGreatDoorPFnLogFullx15
import Derived.Test.YtngccjeicolcpaaGreatDoorPureFnLogFull
import Derived.WalkKit
import Derived.ProofKit
import Derived.OpenShut
import Derived.ShutString
import Derived.ChangeOld
import Derived.Below
import Derived.SizedLaws
namespace Go.Proofs.YtngccjeicolcpaaGreatDoorW.PrintWords
open Go.ChangeShapes Go.WideShapes
/-- A row's slice of whole numbers is no longer than its weight allows. -/
theorem sized_ints {H : Type} {enc : TypeId × Value → H} {P : Program} {W : World} {base : Nat} {spare : Nat → Bool} {held : Bool} {t e : TypeId} {k : IntKind} {a : Option Addr} {len cap : Nat} {d : DataW H} {ps : List MemPlace} {ts : List TypeId} {ds : List (DataW H)} {j : Nat}
    (hsz : (DataW.weightsEach P ts ds).all (· ≤ reachBytes) = true) (ht : ts[j]? = some t) (hd : ds[j]? = some d) (hu : P.underlying t = some (.slice e)) (he : P.underlying e = some (.int k)) (hc : P.cellsOf e = 1) {B : Nat} (hB : P.bytesOf e = B)
    (h : DataW.Trod enc P W base spare held t (.slice a len cap) d ps) : len * B ≤ 140737488351232 := by
  obtain ⟨fuel, hf⟩ := h
  rcases open_ints hu he hc hf with ⟨hcs, _⟩ | ⟨x, l, c, zs, hcs, _, hl, _, hz, hx, _, _⟩
  · simp [Value.cells] at hcs
    obtain ⟨rfl, rfl, rfl⟩ := hcs
    simp
  · simp [Value.cells] at hcs
    obtain ⟨rfl, rfl, rfl⟩ := hcs
    obtain ⟨hx, _⟩ := Prod.mk.inj hx
    subst hx
    have z := sized_slice hsz ht hd hu
    rw [hB] at z
    have hl2 : len ≤ zs.length := by
      rw [hz]
      split
      · exact hl
      · exact Nat.le_refl _
    have h1 : (lits (H := H) k (zs.take len)).length + (lits (H := H) k (zs.drop len)).length = zs.length := by
      simp [lits]
      omega
    rw [h1] at z
    exact Nat.le_trans (Nat.mul_le_mul_right _ hl2) z
end Go.Proofs.YtngccjeicolcpaaGreatDoorW.PrintWords

namespace Go.Proofs.YtngccjeicolcpaaGreatDoor.fnLogFull
open Go.ChangeShapes Go.WideShapes Go.ChangeAt Go.RowKit
open Go.ChangeMaps (open_string shut_string)
set_option linter.unusedVariables false
theorem own : ownKnob Tryz.prog.godebug = none := by kernel_rfl
theorem laidOut : laidOutB Tryz.prog = true := by kernel_rfl
def IsRow (k : IntKind) (w : World) (a : Option Addr) (len cap : Nat) (zs : List Int) : Prop :=
  (a = none ∧ len = 0 ∧ cap = 0 ∧ zs = []) ∨
  ∃ x, a = some x ∧ len ≤ cap ∧ cap ≤ maxLen ∧ zs.length = cap ∧ (∀ i, i < zs.length → w.cell? (x.add i) = some (.int k (zs.getD i 0))) ∧ ∀ n ∈ zs, (Lit.int k n).wf = true
set_option maxRecDepth 100000 in
theorem lifted (os : Os) (started : os.Started) (H : Type) (enc : TypeId × Value → H) :
    ReturnsInHanded {} Tryz.checked os 7 .any (fun w args => (Rows.fnLogFullSpec.pre enc Tryz.prog Tryz.f7 [] false w args ∧ laidMetH Tryz.prog Met.laid w) ∧ sizedMet enc Tryz.prog Tryz.f7 (OpenSpec.ofChange Rows.fnLogFullSpec) false w args) (Rows.fnLogFullSpec.post enc Tryz.prog Tryz.f7 false true false false) := by
  refine returnsInHanded_of_change_and (C := Tryz.checked) (X := fun w _ => laidMetH Tryz.prog Met.laid w) (fun _ _ _ hh h => h.of_heap hh) own started (by kernel_rfl) Tryz.func7
    (ChangeSpec.witness_shaped (enc := enc) (C := Tryz.checked) (os := os) (X := fun w _ => laidMetH Tryz.prog Met.laid w) false (Met.world os) #[.slice none 0 0] 8 (Met.world_os os) (Met.shaped os _) (by kernel_rfl) (by kernel_rfl) (by kernel_rfl) (Met.met os _)) ?_
  intro W base args ds gs before hval0 hW hcnd hsz0 hL0 _
  have hsz : (DataW.weightsEach Tryz.prog (Tryz.f7.params.toList ++ Rows.fnLogFullSpec.plain.varTypes Tryz.prog) (ds ++ gs)).all (· ≤ reachBytes) = true := hsz0
  have hval : ∀ (j : Nat) t v, Tryz.f7.params[j]? = some t → args[j]? = some v → Value.okWide Tryz.prog W .any base t v := hval0
  have hW' := hW
  obtain ⟨p, q, hA0, hV, rfl, hfz, hnd⟩ := hW
  have hA : DataW.TrodAll enc Tryz.prog W 0 (fun _ => true) true Tryz.f7.params.toList args.toList ds p := hA0
  rw [Tryz.params7] at hA hval hsz
  obtain ⟨v0, vs0, d0, ds0, p0, q0, hargs, rfl, rfl, h0, r0⟩ := trodAll_cons hA
  obtain ⟨rfl, rfl, rfl⟩ := trodAll_nil r0
  obtain rfl : args = #[v0] := by cases args; simp_all
  obtain ⟨rfl, rfl⟩ := trodVars_none hV
  obtain ⟨a0, len0, cap0, rfl⟩ := okWide_slice Tryz.underlying53 (hval 0 53 v0 rfl rfl)
  have k0 := h0
  have lt0 : ∀ x ∈ p0, x.block < W.heap.size := by obtain ⟨m, hm⟩ := k0; exact DataW.trod_lt m _ _ _ hm
  obtain ⟨z0, w0⟩ : ∃ zs, IsRow .u8 W a0 len0 cap0 zs := by
    obtain ⟨fuel, hf⟩ := h0
    rcases open_ints Tryz.underlying53 Tryz.underlying5 (by kernel_rfl) hf with ⟨hcs, _⟩ | ⟨x, l, c, zs, hcs, _, hl, hm, hz, _, hcell, hwz⟩
    · simp [Value.cells] at hcs
      obtain ⟨rfl, rfl, rfl⟩ := hcs
      exact ⟨[], .inl ⟨rfl, rfl, rfl, rfl⟩⟩
    · simp [Value.cells] at hcs
      obtain ⟨rfl, rfl, rfl⟩ := hcs
      exact ⟨zs, .inr ⟨_, rfl, hl, hm, by simpa using hz, hcell, hwz⟩⟩
  have y0 : len0 * 1 ≤ 140737488351232 := Go.Proofs.YtngccjeicolcpaaGreatDoorW.PrintWords.sized_ints hsz (j := 0) (t := 53) rfl rfl Tryz.underlying53 Tryz.underlying5 (by kernel_rfl) (by kernel_rfl) h0
  clear hA0 hval0 hsz0 hsz
  refine (PFnLogFull.laws_FnLogFull.walk Pure.FnLogFull a0 len0 cap0 z0 W w0 y0).mono fun e W' ⟨he, bel⟩ => ?_
  subst he
  exact ⟨_, rfl, _, _, _, [], _, [], hW', trodAll_mk1 (shut_bool Tryz.underlying4 _), (trodAll_cons_mk (Below.trod laidOut (by kernel_rfl) (of_decide_eq_true (by kernel_rfl)) k0 bel lt0) trodAll_mk0), rfl, bel.frame _, fun h => by cases h⟩
theorem b1 : (Rows.fnLogFullRow.inPlace == Tryz.prog.inPlace 7) = true := by kernel_rfl
theorem b2 : (Rows.fnLogFullRow.unfollowed == Tryz.prog.unfollowed 7) = true := by kernel_rfl
theorem b3 : (Rows.fnLogFullRow.recurses == Tryz.prog.recurses 7) = true := by kernel_rfl
theorem b4 : (Rows.fnLogFullRow.named == Tryz.prog.varsNamed 7) = true := by kernel_rfl
theorem e1 : (Rows.fnLogFullRow.plainKeys == Tryz.prog.plainKeys) = true := by kernel_rfl
theorem e5 : (Rows.fnLogFullRow.lifted == Tryz.prog.liftsFinal) = true := by rw [Facts.lifts]; rfl
theorem e6 : (Tryz.prog.make == some Rows.fnLogFullRow.make) = true := by rw [Facts.make]; rfl
theorem closed : joinedFacts Tryz.prog 7 Tryz.f7 Rows.fnLogFullSpec Rows.fnLogFullRow = true :=
  Facts.joined_of (by kernel_rfl) Facts.laid Facts.maps (by kernel_rfl) (by kernel_rfl) rfl Facts.stops rfl Facts.stopKnobs b1 b2 b3 b4 (by kernel_rfl) (by kernel_rfl) (by kernel_rfl) (by kernel_rfl) (by kernel_rfl) (by kernel_rfl) (by kernel_rfl) (by kernel_rfl) (by kernel_rfl) e1 rfl Facts.heard Facts.enter e5 e6 (by kernel_rfl) (by kernel_rfl) (by kernel_rfl) (by kernel_rfl)
theorem over : Rows.fnLogFullRow.holds Tryz.pinned (OpenSpec.ofChange Rows.fnLogFullSpec) :=
  OpenClaim.holds_of_wide 7 Tryz.f7 rfl rfl rfl rfl rfl rfl rfl ⟨rfl, rfl, rfl, rfl, rfl⟩ rfl rfl rfl rfl rfl (by kernel_rfl) Tryz.func7 closed
    (of_decide_eq_true (by kernel_rfl)) (by unfold Func.isWrapper; first | (rw [if_pos (by decide +kernel)]; kernel_rfl) | (rw [if_neg (by decide +kernel)]; exact ⟨rfl, rfl⟩))
    (fun os started H enc _ => lifted os started H enc)
theorem proved : Rows.FnLogFullSaid := over
#print axioms proved
theorem goes : false = Rows.fnLogFullRow.goesBy Tryz.prog := by kernel_rfl
theorem wf : Rows.fnLogFullRow.wfByText (OpenSpec.ofChange Rows.fnLogFullSpec) = true := by kernel_rfl
theorem named : Tryz.prog.funcNamed "loop.example/g00648/laws.FnLogFull" = some 7 := by kernel_rfl
theorem carded : Rows.FnLogFullCardSaid :=
  Claim7.holds_tied_plain_at .later [] [.data, .pinned] true (true, "87ef1adabec95bcc500c293081fbd3922396630c80178f059b228d2d6c94b358") false
    over (fun _ h => by cases h) wf (fun _ h => by cases h) fnLogFull_row_tie rfl ⟨rfl, rfl⟩ Met.mainIs rfl
    (fun f fn hf hfn => by
      obtain rfl : f = 7 := Option.some.inj (named.symm.trans hf) |>.symm
      obtain rfl : fn = Tryz.f7 := (Option.some.inj (Tryz.func7.symm.trans hfn)).symm
      exact ⟨Met.looks, fun j t ht => Met.plain_at Tryz.f7.params (by kernel_rfl) j t ht⟩)
    goes
#print axioms carded
end Go.Proofs.YtngccjeicolcpaaGreatDoor.fnLogFull
namespace Go.Proofs.YtngccjeicolcpaaGreatDoor
/-- The row, under a short name, for the claim. -/
theorem fnLogFull_holds : Rows.FnLogFullCardSaid := fnLogFull.carded
end Go.Proofs.YtngccjeicolcpaaGreatDoor
