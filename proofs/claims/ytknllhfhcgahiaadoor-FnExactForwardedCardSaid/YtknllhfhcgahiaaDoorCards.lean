/-
  DERIVED. GIVEN WITH THE SEED: THE CARDS: each row of YtknllhfhcgahiaaDoorRows.lean that lists a variable, with what it lists TIED to the program's text (the seventh form; the later family's looks); each row that meets fmt, with fmt's text TOLD by the authors' own Lean function (tested against real Go, not proved from fmt's source: count such statements apart). THE CARD IS WHAT COUNTS. Prove the row's statement (the work); the ties are given (YtknllhfhcgahiaaDoorTie.lean); close each card by the builder's one call (the guide's Derived/Test/ToyasCard.lean, 'card_holds'). Laid BY PROGRAM, IN A SANDBOX (cutbox-door.mjs). By AI agents, Wed Nov 11 2026. No macro, syntax, notation, axiom, sorry.
-/
import Derived.Test.YtknllhfhcgahiaaDoorRows
import GoSem.ClaimSeven
namespace Go.Proofs.YtknllhfhcgahiaaDoor
namespace Rows

/-- THE TIED CARD OF 'laws.FnExactRunOf'. -/
def fnExactRunOfCard : Claim7 := { stood := { row := fnExactRunOfRow, standIns := [], harness := (true, "2724205c5b33d330592fdd4db0b103600ec031231a21d2fa73314b70c8403806"), looks := false }, kinds := [], alts := [], laidByText := true, laidKinds := [.data, .pinned], laidTests := true, laidLooks := .later }
def FnExactRunOfCardSaid : Prop := Claim7.holds Tryd.pinned (.plain (OpenSpec.ofChange fnExactRunOfSpec)) fnExactRunOfCard

/-- THE TIED CARD OF 'laws.FnExactTypesOk'. -/
def fnExactTypesOkCard : Claim7 := { stood := { row := fnExactTypesOkRow, standIns := [], harness := (true, "2724205c5b33d330592fdd4db0b103600ec031231a21d2fa73314b70c8403806"), looks := false }, kinds := [], alts := [], laidByText := true, laidKinds := [.data, .pinned], laidTests := true, laidLooks := .later }
def FnExactTypesOkCardSaid : Prop := Claim7.holds Tryd.pinned (.plain (OpenSpec.ofChange fnExactTypesOkSpec)) fnExactTypesOkCard

/-- THE TIED CARD OF 'laws.FnRuns'. -/
def fnRunsCard : Claim7 := { stood := { row := fnRunsRow, standIns := [], harness := (true, "2724205c5b33d330592fdd4db0b103600ec031231a21d2fa73314b70c8403806"), looks := false }, kinds := [], alts := [], laidByText := true, laidKinds := [.data, .pinned], laidTests := true, laidLooks := .later }
def FnRunsCardSaid : Prop := Claim7.holds Tryd.pinned (.plain (OpenSpec.ofChange fnRunsSpec)) fnRunsCard

/-- THE TIED CARD OF 'laws.FnExactConfigOk'. -/
def fnExactConfigOkCard : Claim7 := { stood := { row := fnExactConfigOkRow, standIns := [], harness := (true, "2724205c5b33d330592fdd4db0b103600ec031231a21d2fa73314b70c8403806"), looks := false }, kinds := [], alts := [], laidByText := true, laidKinds := [.data, .pinned], laidTests := true, laidLooks := .later }
def FnExactConfigOkCardSaid : Prop := Claim7.holds Tryd.pinned (.plain (OpenSpec.ofChange fnExactConfigOkSpec)) fnExactConfigOkCard

/-- THE TIED CARD OF 'laws.FnExactFirstData'. -/
def fnExactFirstDataCard : Claim7 := { stood := { row := fnExactFirstDataRow, standIns := [], harness := (true, "2724205c5b33d330592fdd4db0b103600ec031231a21d2fa73314b70c8403806"), looks := false }, kinds := [], alts := [], laidByText := true, laidKinds := [.data, .pinned], laidTests := true, laidLooks := .later }
def FnExactFirstDataCardSaid : Prop := Claim7.holds Tryd.pinned (.plain (OpenSpec.ofChange fnExactFirstDataSpec)) fnExactFirstDataCard

/-- THE TIED CARD OF 'laws.FnExactObjOk'. -/
def fnExactObjOkCard : Claim7 := { stood := { row := fnExactObjOkRow, standIns := [], harness := (true, "2724205c5b33d330592fdd4db0b103600ec031231a21d2fa73314b70c8403806"), looks := false }, kinds := [], alts := [], laidByText := true, laidKinds := [.data, .pinned], laidTests := true, laidLooks := .later }
def FnExactObjOkCardSaid : Prop := Claim7.holds Tryd.pinned (.plain (OpenSpec.ofChange fnExactObjOkSpec)) fnExactObjOkCard

/-- THE TIED CARD OF 'laws.FnExactForwarded'. -/
def fnExactForwardedCard : Claim7 := { stood := { row := fnExactForwardedRow, standIns := [], harness := (true, "2724205c5b33d330592fdd4db0b103600ec031231a21d2fa73314b70c8403806"), looks := false }, kinds := [], alts := [], laidByText := true, laidKinds := [.data, .pinned], laidTests := true, laidLooks := .later }
def FnExactForwardedCardSaid : Prop := Claim7.holds Tryd.pinned (.plain (OpenSpec.ofChange fnExactForwardedSpec)) fnExactForwardedCard

/-- THE TIED CARD OF 'laws.FnExactObjectBytes'. -/
def fnExactObjectBytesCard : Claim7 := { stood := { row := fnExactObjectBytesRow, standIns := [], harness := (true, "2724205c5b33d330592fdd4db0b103600ec031231a21d2fa73314b70c8403806"), looks := false }, kinds := [], alts := [], laidByText := true, laidKinds := [.data, .pinned], laidTests := true, laidLooks := .later }
def FnExactObjectBytesCardSaid : Prop := Claim7.holds Tryd.pinned (.plain (OpenSpec.ofChange fnExactObjectBytesSpec)) fnExactObjectBytesCard

/-- THE TIED CARD OF 'laws.FnExactSuperLine'. -/
def fnExactSuperLineCard : Claim7 := { stood := { row := fnExactSuperLineRow, standIns := [], harness := (true, "2724205c5b33d330592fdd4db0b103600ec031231a21d2fa73314b70c8403806"), looks := false }, kinds := [], alts := [], laidByText := true, laidKinds := [.data, .pinned], laidTests := true, laidLooks := .later }
def FnExactSuperLineCardSaid : Prop := Claim7.holds Tryd.pinned (.plain (OpenSpec.ofChange fnExactSuperLineSpec)) fnExactSuperLineCard

/-- THE TIED CARD OF 'laws.FnExactFormat'. -/
def fnExactFormatCard : Claim7 := { stood := { row := fnExactFormatRow, standIns := [], harness := (true, "2724205c5b33d330592fdd4db0b103600ec031231a21d2fa73314b70c8403806"), looks := false }, kinds := [], alts := [], laidByText := true, laidKinds := [.data, .pinned], laidTests := true, laidLooks := .later }
def FnExactFormatCardSaid : Prop := Claim7.holds Tryd.pinned (.plain (OpenSpec.ofChange fnExactFormatSpec)) fnExactFormatCard

/-- THE TIED CARD OF 'laws.FnExactEpochOf'. -/
def fnExactEpochOfCard : Claim7 := { stood := { row := fnExactEpochOfRow, standIns := [], harness := (true, "2724205c5b33d330592fdd4db0b103600ec031231a21d2fa73314b70c8403806"), looks := false }, kinds := [], alts := [], laidByText := true, laidKinds := [.data, .pinned], laidTests := true, laidLooks := .later }
def FnExactEpochOfCardSaid : Prop := Claim7.holds Tryd.pinned (.plain (OpenSpec.ofChange fnExactEpochOfSpec)) fnExactEpochOfCard

/-- THE TIED CARD OF 'laws.FnExactReadObject'. -/
def fnExactReadObjectCard : Claim7 := { stood := { row := fnExactReadObjectRow, standIns := [], harness := (true, "2724205c5b33d330592fdd4db0b103600ec031231a21d2fa73314b70c8403806"), looks := false }, kinds := [], alts := [], laidByText := true, laidKinds := [.data, .pinned], laidTests := true, laidLooks := .later }
def FnExactReadObjectCardSaid : Prop := Claim7.holds Tryd.pinned (.plain (OpenSpec.ofChange fnExactReadObjectSpec)) fnExactReadObjectCard

/-- THE TIED CARD OF 'laws.FnExactReadSuper'. -/
def fnExactReadSuperCard : Claim7 := { stood := { row := fnExactReadSuperRow, standIns := [], harness := (true, "2724205c5b33d330592fdd4db0b103600ec031231a21d2fa73314b70c8403806"), looks := false }, kinds := [], alts := [], laidByText := true, laidKinds := [.data, .pinned], laidTests := true, laidLooks := .later }
def FnExactReadSuperCardSaid : Prop := Claim7.holds Tryd.pinned (.plain (OpenSpec.ofChange fnExactReadSuperSpec)) fnExactReadSuperCard

/-- THE TIED CARD OF 'laws.FnFormats'. -/
def fnFormatsCard : Claim7 := { stood := { row := fnFormatsRow, standIns := [], harness := (true, "2724205c5b33d330592fdd4db0b103600ec031231a21d2fa73314b70c8403806"), looks := false }, kinds := [], alts := [], laidByText := true, laidKinds := [.data, .pinned], laidTests := true, laidLooks := .later }
def FnFormatsCardSaid : Prop := Claim7.holds Tryd.pinned (.plain (OpenSpec.ofChange fnFormatsSpec)) fnFormatsCard

/-- THE TIED CARD OF 'laws.FnSupers'. -/
def fnSupersCard : Claim7 := { stood := { row := fnSupersRow, standIns := [], harness := (true, "2724205c5b33d330592fdd4db0b103600ec031231a21d2fa73314b70c8403806"), looks := false }, kinds := [], alts := [], laidByText := true, laidKinds := [.data, .pinned], laidTests := true, laidLooks := .later }
def FnSupersCardSaid : Prop := Claim7.holds Tryd.pinned (.plain (OpenSpec.ofChange fnSupersSpec)) fnSupersCard

/-- THE SECOND FORM's CARD OF 'laws.FnExactRunOf'. -/
def fnExactRunOfUptoCard : Claim7 := { stood := { row := fnExactRunOfUptoRow, standIns := [], harness := (true, "2724205c5b33d330592fdd4db0b103600ec031231a21d2fa73314b70c8403806"), looks := false }, kinds := [], alts := [], laidByText := true, laidKinds := [.data, .pinned], laidTests := true, laidLooks := .later }
def FnExactRunOfUptoCardSaid : Prop := Claim7.holds Tryd.pinned (.plain (OpenSpec.upto fnExactRunOfSpec)) fnExactRunOfUptoCard

/-- THE SECOND FORM's CARD OF 'laws.FnExactTypesOk'. -/
def fnExactTypesOkUptoCard : Claim7 := { stood := { row := fnExactTypesOkUptoRow, standIns := [], harness := (true, "2724205c5b33d330592fdd4db0b103600ec031231a21d2fa73314b70c8403806"), looks := false }, kinds := [], alts := [], laidByText := true, laidKinds := [.data, .pinned], laidTests := true, laidLooks := .later }
def FnExactTypesOkUptoCardSaid : Prop := Claim7.holds Tryd.pinned (.plain (OpenSpec.upto fnExactTypesOkSpec)) fnExactTypesOkUptoCard

/-- THE SECOND FORM's CARD OF 'laws.FnRuns'. -/
def fnRunsUptoCard : Claim7 := { stood := { row := fnRunsUptoRow, standIns := [], harness := (true, "2724205c5b33d330592fdd4db0b103600ec031231a21d2fa73314b70c8403806"), looks := false }, kinds := [], alts := [], laidByText := true, laidKinds := [.data, .pinned], laidTests := true, laidLooks := .later }
def FnRunsUptoCardSaid : Prop := Claim7.holds Tryd.pinned (.plain (OpenSpec.upto fnRunsSpec)) fnRunsUptoCard

/-- THE SECOND FORM's CARD OF 'laws.FnExactConfigOk'. -/
def fnExactConfigOkUptoCard : Claim7 := { stood := { row := fnExactConfigOkUptoRow, standIns := [], harness := (true, "2724205c5b33d330592fdd4db0b103600ec031231a21d2fa73314b70c8403806"), looks := false }, kinds := [], alts := [], laidByText := true, laidKinds := [.data, .pinned], laidTests := true, laidLooks := .later }
def FnExactConfigOkUptoCardSaid : Prop := Claim7.holds Tryd.pinned (.plain (OpenSpec.upto fnExactConfigOkSpec)) fnExactConfigOkUptoCard

/-- THE SECOND FORM's CARD OF 'laws.FnExactFirstData'. -/
def fnExactFirstDataUptoCard : Claim7 := { stood := { row := fnExactFirstDataUptoRow, standIns := [], harness := (true, "2724205c5b33d330592fdd4db0b103600ec031231a21d2fa73314b70c8403806"), looks := false }, kinds := [], alts := [], laidByText := true, laidKinds := [.data, .pinned], laidTests := true, laidLooks := .later }
def FnExactFirstDataUptoCardSaid : Prop := Claim7.holds Tryd.pinned (.plain (OpenSpec.upto fnExactFirstDataSpec)) fnExactFirstDataUptoCard

/-- THE SECOND FORM's CARD OF 'laws.FnExactObjOk'. -/
def fnExactObjOkUptoCard : Claim7 := { stood := { row := fnExactObjOkUptoRow, standIns := [], harness := (true, "2724205c5b33d330592fdd4db0b103600ec031231a21d2fa73314b70c8403806"), looks := false }, kinds := [], alts := [], laidByText := true, laidKinds := [.data, .pinned], laidTests := true, laidLooks := .later }
def FnExactObjOkUptoCardSaid : Prop := Claim7.holds Tryd.pinned (.plain (OpenSpec.upto fnExactObjOkSpec)) fnExactObjOkUptoCard

/-- THE SECOND FORM's CARD OF 'laws.FnExactForwarded'. -/
def fnExactForwardedUptoCard : Claim7 := { stood := { row := fnExactForwardedUptoRow, standIns := [], harness := (true, "2724205c5b33d330592fdd4db0b103600ec031231a21d2fa73314b70c8403806"), looks := false }, kinds := [], alts := [], laidByText := true, laidKinds := [.data, .pinned], laidTests := true, laidLooks := .later }
def FnExactForwardedUptoCardSaid : Prop := Claim7.holds Tryd.pinned (.plain (OpenSpec.upto fnExactForwardedSpec)) fnExactForwardedUptoCard

/-- THE SECOND FORM's CARD OF 'laws.FnExactObjectBytes'. -/
def fnExactObjectBytesUptoCard : Claim7 := { stood := { row := fnExactObjectBytesUptoRow, standIns := [], harness := (true, "2724205c5b33d330592fdd4db0b103600ec031231a21d2fa73314b70c8403806"), looks := false }, kinds := [], alts := [], laidByText := true, laidKinds := [.data, .pinned], laidTests := true, laidLooks := .later }
def FnExactObjectBytesUptoCardSaid : Prop := Claim7.holds Tryd.pinned (.plain (OpenSpec.upto fnExactObjectBytesSpec)) fnExactObjectBytesUptoCard

/-- THE SECOND FORM's CARD OF 'laws.FnExactSuperLine'. -/
def fnExactSuperLineUptoCard : Claim7 := { stood := { row := fnExactSuperLineUptoRow, standIns := [], harness := (true, "2724205c5b33d330592fdd4db0b103600ec031231a21d2fa73314b70c8403806"), looks := false }, kinds := [], alts := [], laidByText := true, laidKinds := [.data, .pinned], laidTests := true, laidLooks := .later }
def FnExactSuperLineUptoCardSaid : Prop := Claim7.holds Tryd.pinned (.plain (OpenSpec.upto fnExactSuperLineSpec)) fnExactSuperLineUptoCard

/-- THE SECOND FORM's CARD OF 'laws.FnExactFormat'. -/
def fnExactFormatUptoCard : Claim7 := { stood := { row := fnExactFormatUptoRow, standIns := [], harness := (true, "2724205c5b33d330592fdd4db0b103600ec031231a21d2fa73314b70c8403806"), looks := false }, kinds := [], alts := [], laidByText := true, laidKinds := [.data, .pinned], laidTests := true, laidLooks := .later }
def FnExactFormatUptoCardSaid : Prop := Claim7.holds Tryd.pinned (.plain (OpenSpec.upto fnExactFormatSpec)) fnExactFormatUptoCard

/-- THE SECOND FORM's CARD OF 'laws.FnExactEpochOf'. -/
def fnExactEpochOfUptoCard : Claim7 := { stood := { row := fnExactEpochOfUptoRow, standIns := [], harness := (true, "2724205c5b33d330592fdd4db0b103600ec031231a21d2fa73314b70c8403806"), looks := false }, kinds := [], alts := [], laidByText := true, laidKinds := [.data, .pinned], laidTests := true, laidLooks := .later }
def FnExactEpochOfUptoCardSaid : Prop := Claim7.holds Tryd.pinned (.plain (OpenSpec.upto fnExactEpochOfSpec)) fnExactEpochOfUptoCard

/-- THE SECOND FORM's CARD OF 'laws.FnExactReadObject'. -/
def fnExactReadObjectUptoCard : Claim7 := { stood := { row := fnExactReadObjectUptoRow, standIns := [], harness := (true, "2724205c5b33d330592fdd4db0b103600ec031231a21d2fa73314b70c8403806"), looks := false }, kinds := [], alts := [], laidByText := true, laidKinds := [.data, .pinned], laidTests := true, laidLooks := .later }
def FnExactReadObjectUptoCardSaid : Prop := Claim7.holds Tryd.pinned (.plain (OpenSpec.upto fnExactReadObjectSpec)) fnExactReadObjectUptoCard

/-- THE SECOND FORM's CARD OF 'laws.FnExactReadSuper'. -/
def fnExactReadSuperUptoCard : Claim7 := { stood := { row := fnExactReadSuperUptoRow, standIns := [], harness := (true, "2724205c5b33d330592fdd4db0b103600ec031231a21d2fa73314b70c8403806"), looks := false }, kinds := [], alts := [], laidByText := true, laidKinds := [.data, .pinned], laidTests := true, laidLooks := .later }
def FnExactReadSuperUptoCardSaid : Prop := Claim7.holds Tryd.pinned (.plain (OpenSpec.upto fnExactReadSuperSpec)) fnExactReadSuperUptoCard

/-- THE SECOND FORM's CARD OF 'laws.FnFormats'. -/
def fnFormatsUptoCard : Claim7 := { stood := { row := fnFormatsUptoRow, standIns := [], harness := (true, "2724205c5b33d330592fdd4db0b103600ec031231a21d2fa73314b70c8403806"), looks := false }, kinds := [], alts := [], laidByText := true, laidKinds := [.data, .pinned], laidTests := true, laidLooks := .later }
def FnFormatsUptoCardSaid : Prop := Claim7.holds Tryd.pinned (.plain (OpenSpec.upto fnFormatsSpec)) fnFormatsUptoCard

/-- THE SECOND FORM's CARD OF 'laws.FnSupers'. -/
def fnSupersUptoCard : Claim7 := { stood := { row := fnSupersUptoRow, standIns := [], harness := (true, "2724205c5b33d330592fdd4db0b103600ec031231a21d2fa73314b70c8403806"), looks := false }, kinds := [], alts := [], laidByText := true, laidKinds := [.data, .pinned], laidTests := true, laidLooks := .later }
def FnSupersUptoCardSaid : Prop := Claim7.holds Tryd.pinned (.plain (OpenSpec.upto fnSupersSpec)) fnSupersUptoCard
end Rows
end Go.Proofs.YtknllhfhcgahiaaDoor
