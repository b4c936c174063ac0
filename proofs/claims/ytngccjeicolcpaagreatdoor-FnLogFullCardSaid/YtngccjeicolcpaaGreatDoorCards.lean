/-
  DERIVED. GIVEN WITH THE SEED: THE CARDS: each row of YtngccjeicolcpaaGreatDoorRows.lean that lists a variable, with what it lists TIED to the program's text (the seventh form; the later family's looks); each row that meets fmt, with fmt's text TOLD by the authors' own Lean function (tested against real Go, not proved from fmt's source: count such statements apart). THE CARD IS WHAT COUNTS. Prove the row's statement (the work); the ties are given (YtngccjeicolcpaaGreatDoorTie.lean); close each card by the builder's one call (the guide's Derived/Test/ToyasCard.lean, 'card_holds'). Laid BY PROGRAM, IN A SANDBOX (cutbox-door.mjs). By AI agents, Wed Nov 11 2026. No macro, syntax, notation, axiom, sorry.
-/
import Derived.Test.YtngccjeicolcpaaGreatDoorRows
import GoSem.ClaimSeven
namespace Go.Proofs.YtngccjeicolcpaaGreatDoor
namespace Rows

/-- THE TIED CARD OF 'laws.FnExactEnded'. -/
def fnExactEndedCard : Claim7 := { stood := { row := fnExactEndedRow, standIns := [], harness := (true, "87ef1adabec95bcc500c293081fbd3922396630c80178f059b228d2d6c94b358"), looks := false }, kinds := [], alts := [], laidByText := true, laidKinds := [.data, .pinned], laidTests := true, laidLooks := .later }
def FnExactEndedCardSaid : Prop := Claim7.holds Tryz.pinned (.plain (OpenSpec.ofChange fnExactEndedSpec)) fnExactEndedCard

/-- THE TIED CARD OF 'laws.FnExactNoted'. -/
def fnExactNotedCard : Claim7 := { stood := { row := fnExactNotedRow, standIns := [], harness := (true, "87ef1adabec95bcc500c293081fbd3922396630c80178f059b228d2d6c94b358"), looks := false }, kinds := [], alts := [], laidByText := true, laidKinds := [.data, .pinned], laidTests := true, laidLooks := .later }
def FnExactNotedCardSaid : Prop := Claim7.holds Tryz.pinned (.plain (OpenSpec.ofChange fnExactNotedSpec)) fnExactNotedCard

/-- THE TIED CARD OF 'laws.FnExactLogged'. -/
def fnExactLoggedCard : Claim7 := { stood := { row := fnExactLoggedRow, standIns := [], harness := (true, "87ef1adabec95bcc500c293081fbd3922396630c80178f059b228d2d6c94b358"), looks := false }, kinds := [], alts := [], laidByText := true, laidKinds := [.data, .pinned], laidTests := true, laidLooks := .later }
def FnExactLoggedCardSaid : Prop := Claim7.holds Tryz.pinned (.plain (OpenSpec.ofChange fnExactLoggedSpec)) fnExactLoggedCard

/-- THE TIED CARD OF 'laws.FnExactLogOf'. -/
def fnExactLogOfCard : Claim7 := { stood := { row := fnExactLogOfRow, standIns := [], harness := (true, "87ef1adabec95bcc500c293081fbd3922396630c80178f059b228d2d6c94b358"), looks := false }, kinds := [], alts := [], laidByText := true, laidKinds := [.data, .pinned], laidTests := true, laidLooks := .later }
def FnExactLogOfCardSaid : Prop := Claim7.holds Tryz.pinned (.plain (OpenSpec.ofChange fnExactLogOfSpec)) fnExactLogOfCard

/-- THE TIED CARD OF 'laws.FnLogFull'. -/
def fnLogFullCard : Claim7 := { stood := { row := fnLogFullRow, standIns := [], harness := (true, "87ef1adabec95bcc500c293081fbd3922396630c80178f059b228d2d6c94b358"), looks := false }, kinds := [], alts := [], laidByText := true, laidKinds := [.data, .pinned], laidTests := true, laidLooks := .later }
def FnLogFullCardSaid : Prop := Claim7.holds Tryz.pinned (.plain (OpenSpec.ofChange fnLogFullSpec)) fnLogFullCard

/-- THE SECOND FORM's CARD OF 'laws.FnExactEnded'. -/
def fnExactEndedUptoCard : Claim7 := { stood := { row := fnExactEndedUptoRow, standIns := [], harness := (true, "87ef1adabec95bcc500c293081fbd3922396630c80178f059b228d2d6c94b358"), looks := false }, kinds := [], alts := [], laidByText := true, laidKinds := [.data, .pinned], laidTests := true, laidLooks := .later }
def FnExactEndedUptoCardSaid : Prop := Claim7.holds Tryz.pinned (.plain (OpenSpec.upto fnExactEndedSpec)) fnExactEndedUptoCard

/-- THE SECOND FORM's CARD OF 'laws.FnExactNoted'. -/
def fnExactNotedUptoCard : Claim7 := { stood := { row := fnExactNotedUptoRow, standIns := [], harness := (true, "87ef1adabec95bcc500c293081fbd3922396630c80178f059b228d2d6c94b358"), looks := false }, kinds := [], alts := [], laidByText := true, laidKinds := [.data, .pinned], laidTests := true, laidLooks := .later }
def FnExactNotedUptoCardSaid : Prop := Claim7.holds Tryz.pinned (.plain (OpenSpec.upto fnExactNotedSpec)) fnExactNotedUptoCard

/-- THE SECOND FORM's CARD OF 'laws.FnExactLogged'. -/
def fnExactLoggedUptoCard : Claim7 := { stood := { row := fnExactLoggedUptoRow, standIns := [], harness := (true, "87ef1adabec95bcc500c293081fbd3922396630c80178f059b228d2d6c94b358"), looks := false }, kinds := [], alts := [], laidByText := true, laidKinds := [.data, .pinned], laidTests := true, laidLooks := .later }
def FnExactLoggedUptoCardSaid : Prop := Claim7.holds Tryz.pinned (.plain (OpenSpec.upto fnExactLoggedSpec)) fnExactLoggedUptoCard

/-- THE SECOND FORM's CARD OF 'laws.FnExactLogOf'. -/
def fnExactLogOfUptoCard : Claim7 := { stood := { row := fnExactLogOfUptoRow, standIns := [], harness := (true, "87ef1adabec95bcc500c293081fbd3922396630c80178f059b228d2d6c94b358"), looks := false }, kinds := [], alts := [], laidByText := true, laidKinds := [.data, .pinned], laidTests := true, laidLooks := .later }
def FnExactLogOfUptoCardSaid : Prop := Claim7.holds Tryz.pinned (.plain (OpenSpec.upto fnExactLogOfSpec)) fnExactLogOfUptoCard

/-- THE SECOND FORM's CARD OF 'laws.FnLogFull'. -/
def fnLogFullUptoCard : Claim7 := { stood := { row := fnLogFullUptoRow, standIns := [], harness := (true, "87ef1adabec95bcc500c293081fbd3922396630c80178f059b228d2d6c94b358"), looks := false }, kinds := [], alts := [], laidByText := true, laidKinds := [.data, .pinned], laidTests := true, laidLooks := .later }
def FnLogFullUptoCardSaid : Prop := Claim7.holds Tryz.pinned (.plain (OpenSpec.upto fnLogFullSpec)) fnLogFullUptoCard
end Rows
end Go.Proofs.YtngccjeicolcpaaGreatDoor
