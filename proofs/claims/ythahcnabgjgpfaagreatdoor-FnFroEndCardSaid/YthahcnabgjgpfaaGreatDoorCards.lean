/-
  DERIVED. GIVEN WITH THE SEED: THE CARDS: each row of YthahcnabgjgpfaaGreatDoorRows.lean that lists a variable, with what it lists TIED to the program's text (the seventh form; the later family's looks); each row that meets fmt, with fmt's text TOLD by the authors' own Lean function (tested against real Go, not proved from fmt's source: count such statements apart). THE CARD IS WHAT COUNTS. Prove the row's statement (the work); the ties are given (YthahcnabgjgpfaaGreatDoorTie.lean); close each card by the builder's one call (the guide's Derived/Test/ToyasCard.lean, 'card_holds'). Laid BY PROGRAM, IN A SANDBOX (cutbox-door.mjs). By AI agents, Wed Nov 11 2026. No macro, syntax, notation, axiom, sorry.
-/
import Derived.Test.YthahcnabgjgpfaaGreatDoorRows
import GoSem.ClaimSeven
namespace Go.Proofs.YthahcnabgjgpfaaGreatDoor
namespace Rows

/-- THE TIED CARD OF 'laws.FnFroOk'. -/
def fnFroOkCard : Claim7 := { stood := { row := fnFroOkRow, standIns := [], harness := (true, "a3d34960907d9e5eb22a92ac823b7758d167b0b7494419f2d51d74abfdbb412a"), looks := false }, kinds := [], alts := [], laidByText := true, laidKinds := [.data, .pinned], laidTests := true, laidLooks := .later }
def FnFroOkCardSaid : Prop := Claim7.holds Tryz.pinned (.plain (OpenSpec.ofChange fnFroOkSpec)) fnFroOkCard

/-- THE TIED CARD OF 'laws.FnExactFroGive'. -/
def fnExactFroGiveCard : Claim7 := { stood := { row := fnExactFroGiveRow, standIns := [], harness := (true, "a3d34960907d9e5eb22a92ac823b7758d167b0b7494419f2d51d74abfdbb412a"), looks := false }, kinds := [], alts := [], laidByText := true, laidKinds := [.data, .pinned], laidTests := true, laidLooks := .later }
def FnExactFroGiveCardSaid : Prop := Claim7.holds Tryz.pinned (.plain (OpenSpec.ofChange fnExactFroGiveSpec)) fnExactFroGiveCard

/-- THE TIED CARD OF 'laws.FnFroTick'. -/
def fnFroTickCard : Claim7 := { stood := { row := fnFroTickRow, standIns := [], harness := (true, "a3d34960907d9e5eb22a92ac823b7758d167b0b7494419f2d51d74abfdbb412a"), looks := false }, kinds := [], alts := [], laidByText := true, laidKinds := [.data, .pinned], laidTests := true, laidLooks := .later }
def FnFroTickCardSaid : Prop := Claim7.holds Tryz.pinned (.plain (OpenSpec.ofChange fnFroTickSpec)) fnFroTickCard

/-- THE TIED CARD OF 'laws.FnFroFall'. -/
def fnFroFallCard : Claim7 := { stood := { row := fnFroFallRow, standIns := [], harness := (true, "a3d34960907d9e5eb22a92ac823b7758d167b0b7494419f2d51d74abfdbb412a"), looks := false }, kinds := [], alts := [], laidByText := true, laidKinds := [.data, .pinned], laidTests := true, laidLooks := .later }
def FnFroFallCardSaid : Prop := Claim7.holds Tryz.pinned (.plain (OpenSpec.ofChange fnFroFallSpec)) fnFroFallCard

/-- THE TIED CARD OF 'laws.FnFroBegin'. -/
def fnFroBeginCard : Claim7 := { stood := { row := fnFroBeginRow, standIns := [], harness := (true, "a3d34960907d9e5eb22a92ac823b7758d167b0b7494419f2d51d74abfdbb412a"), looks := false }, kinds := [], alts := [], laidByText := true, laidKinds := [.data, .pinned], laidTests := true, laidLooks := .later }
def FnFroBeginCardSaid : Prop := Claim7.holds Tryz.pinned (.plain (OpenSpec.ofChange fnFroBeginSpec)) fnFroBeginCard

/-- THE TIED CARD OF 'laws.FnFroGive'. -/
def fnFroGiveCard : Claim7 := { stood := { row := fnFroGiveRow, standIns := [], harness := (true, "a3d34960907d9e5eb22a92ac823b7758d167b0b7494419f2d51d74abfdbb412a"), looks := false }, kinds := [], alts := [], laidByText := true, laidKinds := [.data, .pinned], laidTests := true, laidLooks := .later }
def FnFroGiveCardSaid : Prop := Claim7.holds Tryz.pinned (.plain (OpenSpec.ofChange fnFroGiveSpec)) fnFroGiveCard

/-- THE TIED CARD OF 'laws.FnFroEnd'. -/
def fnFroEndCard : Claim7 := { stood := { row := fnFroEndRow, standIns := [], harness := (true, "a3d34960907d9e5eb22a92ac823b7758d167b0b7494419f2d51d74abfdbb412a"), looks := false }, kinds := [], alts := [], laidByText := true, laidKinds := [.data, .pinned], laidTests := true, laidLooks := .later }
def FnFroEndCardSaid : Prop := Claim7.holds Tryz.pinned (.plain (OpenSpec.ofChange fnFroEndSpec)) fnFroEndCard

/-- THE SECOND FORM's CARD OF 'laws.FnFroOk'. -/
def fnFroOkUptoCard : Claim7 := { stood := { row := fnFroOkUptoRow, standIns := [], harness := (true, "a3d34960907d9e5eb22a92ac823b7758d167b0b7494419f2d51d74abfdbb412a"), looks := false }, kinds := [], alts := [], laidByText := true, laidKinds := [.data, .pinned], laidTests := true, laidLooks := .later }
def FnFroOkUptoCardSaid : Prop := Claim7.holds Tryz.pinned (.plain (OpenSpec.upto fnFroOkSpec)) fnFroOkUptoCard

/-- THE SECOND FORM's CARD OF 'laws.FnExactFroGive'. -/
def fnExactFroGiveUptoCard : Claim7 := { stood := { row := fnExactFroGiveUptoRow, standIns := [], harness := (true, "a3d34960907d9e5eb22a92ac823b7758d167b0b7494419f2d51d74abfdbb412a"), looks := false }, kinds := [], alts := [], laidByText := true, laidKinds := [.data, .pinned], laidTests := true, laidLooks := .later }
def FnExactFroGiveUptoCardSaid : Prop := Claim7.holds Tryz.pinned (.plain (OpenSpec.upto fnExactFroGiveSpec)) fnExactFroGiveUptoCard

/-- THE SECOND FORM's CARD OF 'laws.FnFroTick'. -/
def fnFroTickUptoCard : Claim7 := { stood := { row := fnFroTickUptoRow, standIns := [], harness := (true, "a3d34960907d9e5eb22a92ac823b7758d167b0b7494419f2d51d74abfdbb412a"), looks := false }, kinds := [], alts := [], laidByText := true, laidKinds := [.data, .pinned], laidTests := true, laidLooks := .later }
def FnFroTickUptoCardSaid : Prop := Claim7.holds Tryz.pinned (.plain (OpenSpec.upto fnFroTickSpec)) fnFroTickUptoCard

/-- THE SECOND FORM's CARD OF 'laws.FnFroFall'. -/
def fnFroFallUptoCard : Claim7 := { stood := { row := fnFroFallUptoRow, standIns := [], harness := (true, "a3d34960907d9e5eb22a92ac823b7758d167b0b7494419f2d51d74abfdbb412a"), looks := false }, kinds := [], alts := [], laidByText := true, laidKinds := [.data, .pinned], laidTests := true, laidLooks := .later }
def FnFroFallUptoCardSaid : Prop := Claim7.holds Tryz.pinned (.plain (OpenSpec.upto fnFroFallSpec)) fnFroFallUptoCard

/-- THE SECOND FORM's CARD OF 'laws.FnFroBegin'. -/
def fnFroBeginUptoCard : Claim7 := { stood := { row := fnFroBeginUptoRow, standIns := [], harness := (true, "a3d34960907d9e5eb22a92ac823b7758d167b0b7494419f2d51d74abfdbb412a"), looks := false }, kinds := [], alts := [], laidByText := true, laidKinds := [.data, .pinned], laidTests := true, laidLooks := .later }
def FnFroBeginUptoCardSaid : Prop := Claim7.holds Tryz.pinned (.plain (OpenSpec.upto fnFroBeginSpec)) fnFroBeginUptoCard

/-- THE SECOND FORM's CARD OF 'laws.FnFroGive'. -/
def fnFroGiveUptoCard : Claim7 := { stood := { row := fnFroGiveUptoRow, standIns := [], harness := (true, "a3d34960907d9e5eb22a92ac823b7758d167b0b7494419f2d51d74abfdbb412a"), looks := false }, kinds := [], alts := [], laidByText := true, laidKinds := [.data, .pinned], laidTests := true, laidLooks := .later }
def FnFroGiveUptoCardSaid : Prop := Claim7.holds Tryz.pinned (.plain (OpenSpec.upto fnFroGiveSpec)) fnFroGiveUptoCard

/-- THE SECOND FORM's CARD OF 'laws.FnFroEnd'. -/
def fnFroEndUptoCard : Claim7 := { stood := { row := fnFroEndUptoRow, standIns := [], harness := (true, "a3d34960907d9e5eb22a92ac823b7758d167b0b7494419f2d51d74abfdbb412a"), looks := false }, kinds := [], alts := [], laidByText := true, laidKinds := [.data, .pinned], laidTests := true, laidLooks := .later }
def FnFroEndUptoCardSaid : Prop := Claim7.holds Tryz.pinned (.plain (OpenSpec.upto fnFroEndSpec)) fnFroEndUptoCard
end Rows
end Go.Proofs.YthahcnabgjgpfaaGreatDoor
