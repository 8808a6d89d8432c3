/-
  DERIVED. GIVEN WITH THE SEED: THE CARDS: each row of YthahcnabgjgpfabGreatDoorRows.lean that lists a variable, with what it lists TIED to the program's text (the seventh form; the later family's looks); each row that meets fmt, with fmt's text TOLD by the authors' own Lean function (tested against real Go, not proved from fmt's source: count such statements apart). THE CARD IS WHAT COUNTS. Prove the row's statement (the work); the ties are given (YthahcnabgjgpfabGreatDoorTie.lean); close each card by the builder's one call (the guide's Derived/Test/ToyasCard.lean, 'card_holds'). Laid BY PROGRAM, IN A SANDBOX (cutbox-door.mjs). By AI agents, Wed Nov 11 2026. No macro, syntax, notation, axiom, sorry.
-/
import Derived.Test.YthahcnabgjgpfabGreatDoorRows
import GoSem.ClaimSeven
namespace Go.Proofs.YthahcnabgjgpfabGreatDoor
namespace Rows

/-- THE TIED CARD OF 'laws.FnExactFroHear'. -/
def fnExactFroHearCard : Claim7 := { stood := { row := fnExactFroHearRow, standIns := [], harness := (true, "05f7f1423cb62b52bf6d9b4d7a7da0a0b2a92bf2206a5ace28e64aa8daf871e9"), looks := false }, kinds := [], alts := [], laidByText := true, laidKinds := [.data, .pinned], laidTests := true, laidLooks := .later }
def FnExactFroHearCardSaid : Prop := Claim7.holds Tryz.pinned (.plain (OpenSpec.ofChange fnExactFroHearSpec)) fnExactFroHearCard

/-- THE TIED CARD OF 'laws.FnFroOrder'. -/
def fnFroOrderCard : Claim7 := { stood := { row := fnFroOrderRow, standIns := [], harness := (true, "05f7f1423cb62b52bf6d9b4d7a7da0a0b2a92bf2206a5ace28e64aa8daf871e9"), looks := false }, kinds := [], alts := [], laidByText := true, laidKinds := [.data, .pinned], laidTests := true, laidLooks := .later }
def FnFroOrderCardSaid : Prop := Claim7.holds Tryz.pinned (.plain (OpenSpec.ofChange fnFroOrderSpec)) fnFroOrderCard

/-- THE TIED CARD OF 'laws.FnFroWhat'. -/
def fnFroWhatCard : Claim7 := { stood := { row := fnFroWhatRow, standIns := [], harness := (true, "05f7f1423cb62b52bf6d9b4d7a7da0a0b2a92bf2206a5ace28e64aa8daf871e9"), looks := false }, kinds := [], alts := [], laidByText := true, laidKinds := [.data, .pinned], laidTests := true, laidLooks := .later }
def FnFroWhatCardSaid : Prop := Claim7.holds Tryz.pinned (.plain (OpenSpec.ofChange fnFroWhatSpec)) fnFroWhatCard

/-- THE TIED CARD OF 'laws.FnFroTwice'. -/
def fnFroTwiceCard : Claim7 := { stood := { row := fnFroTwiceRow, standIns := [], harness := (true, "05f7f1423cb62b52bf6d9b4d7a7da0a0b2a92bf2206a5ace28e64aa8daf871e9"), looks := false }, kinds := [], alts := [], laidByText := true, laidKinds := [.data, .pinned], laidTests := true, laidLooks := .later }
def FnFroTwiceCardSaid : Prop := Claim7.holds Tryz.pinned (.plain (OpenSpec.ofChange fnFroTwiceSpec)) fnFroTwiceCard

/-- THE TIED CARD OF 'laws.FnFroApart'. -/
def fnFroApartCard : Claim7 := { stood := { row := fnFroApartRow, standIns := [], harness := (true, "05f7f1423cb62b52bf6d9b4d7a7da0a0b2a92bf2206a5ace28e64aa8daf871e9"), looks := false }, kinds := [], alts := [], laidByText := true, laidKinds := [.data, .pinned], laidTests := true, laidLooks := .later }
def FnFroApartCardSaid : Prop := Claim7.holds Tryz.pinned (.plain (OpenSpec.ofChange fnFroApartSpec)) fnFroApartCard

/-- THE TIED CARD OF 'laws.FnFroHear'. -/
def fnFroHearCard : Claim7 := { stood := { row := fnFroHearRow, standIns := [], harness := (true, "05f7f1423cb62b52bf6d9b4d7a7da0a0b2a92bf2206a5ace28e64aa8daf871e9"), looks := false }, kinds := [], alts := [], laidByText := true, laidKinds := [.data, .pinned], laidTests := true, laidLooks := .later }
def FnFroHearCardSaid : Prop := Claim7.holds Tryz.pinned (.plain (OpenSpec.ofChange fnFroHearSpec)) fnFroHearCard

/-- THE SECOND FORM's CARD OF 'laws.FnExactFroHear'. -/
def fnExactFroHearUptoCard : Claim7 := { stood := { row := fnExactFroHearUptoRow, standIns := [], harness := (true, "05f7f1423cb62b52bf6d9b4d7a7da0a0b2a92bf2206a5ace28e64aa8daf871e9"), looks := false }, kinds := [], alts := [], laidByText := true, laidKinds := [.data, .pinned], laidTests := true, laidLooks := .later }
def FnExactFroHearUptoCardSaid : Prop := Claim7.holds Tryz.pinned (.plain (OpenSpec.upto fnExactFroHearSpec)) fnExactFroHearUptoCard

/-- THE SECOND FORM's CARD OF 'laws.FnFroOrder'. -/
def fnFroOrderUptoCard : Claim7 := { stood := { row := fnFroOrderUptoRow, standIns := [], harness := (true, "05f7f1423cb62b52bf6d9b4d7a7da0a0b2a92bf2206a5ace28e64aa8daf871e9"), looks := false }, kinds := [], alts := [], laidByText := true, laidKinds := [.data, .pinned], laidTests := true, laidLooks := .later }
def FnFroOrderUptoCardSaid : Prop := Claim7.holds Tryz.pinned (.plain (OpenSpec.upto fnFroOrderSpec)) fnFroOrderUptoCard

/-- THE SECOND FORM's CARD OF 'laws.FnFroWhat'. -/
def fnFroWhatUptoCard : Claim7 := { stood := { row := fnFroWhatUptoRow, standIns := [], harness := (true, "05f7f1423cb62b52bf6d9b4d7a7da0a0b2a92bf2206a5ace28e64aa8daf871e9"), looks := false }, kinds := [], alts := [], laidByText := true, laidKinds := [.data, .pinned], laidTests := true, laidLooks := .later }
def FnFroWhatUptoCardSaid : Prop := Claim7.holds Tryz.pinned (.plain (OpenSpec.upto fnFroWhatSpec)) fnFroWhatUptoCard

/-- THE SECOND FORM's CARD OF 'laws.FnFroTwice'. -/
def fnFroTwiceUptoCard : Claim7 := { stood := { row := fnFroTwiceUptoRow, standIns := [], harness := (true, "05f7f1423cb62b52bf6d9b4d7a7da0a0b2a92bf2206a5ace28e64aa8daf871e9"), looks := false }, kinds := [], alts := [], laidByText := true, laidKinds := [.data, .pinned], laidTests := true, laidLooks := .later }
def FnFroTwiceUptoCardSaid : Prop := Claim7.holds Tryz.pinned (.plain (OpenSpec.upto fnFroTwiceSpec)) fnFroTwiceUptoCard

/-- THE SECOND FORM's CARD OF 'laws.FnFroApart'. -/
def fnFroApartUptoCard : Claim7 := { stood := { row := fnFroApartUptoRow, standIns := [], harness := (true, "05f7f1423cb62b52bf6d9b4d7a7da0a0b2a92bf2206a5ace28e64aa8daf871e9"), looks := false }, kinds := [], alts := [], laidByText := true, laidKinds := [.data, .pinned], laidTests := true, laidLooks := .later }
def FnFroApartUptoCardSaid : Prop := Claim7.holds Tryz.pinned (.plain (OpenSpec.upto fnFroApartSpec)) fnFroApartUptoCard

/-- THE SECOND FORM's CARD OF 'laws.FnFroHear'. -/
def fnFroHearUptoCard : Claim7 := { stood := { row := fnFroHearUptoRow, standIns := [], harness := (true, "05f7f1423cb62b52bf6d9b4d7a7da0a0b2a92bf2206a5ace28e64aa8daf871e9"), looks := false }, kinds := [], alts := [], laidByText := true, laidKinds := [.data, .pinned], laidTests := true, laidLooks := .later }
def FnFroHearUptoCardSaid : Prop := Claim7.holds Tryz.pinned (.plain (OpenSpec.upto fnFroHearSpec)) fnFroHearUptoCard
end Rows
end Go.Proofs.YthahcnabgjgpfabGreatDoor
