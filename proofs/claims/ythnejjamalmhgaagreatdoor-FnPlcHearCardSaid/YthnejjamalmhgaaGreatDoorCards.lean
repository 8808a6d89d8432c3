/-
  DERIVED. GIVEN WITH THE SEED: THE CARDS: each row of YthnejjamalmhgaaGreatDoorRows.lean that lists a variable, with what it lists TIED to the program's text (the seventh form; the later family's looks); each row that meets fmt, with fmt's text TOLD by the authors' own Lean function (tested against real Go, not proved from fmt's source: count such statements apart). THE CARD IS WHAT COUNTS. Prove the row's statement (the work); the ties are given (YthnejjamalmhgaaGreatDoorTie.lean); close each card by the builder's one call (the guide's Derived/Test/ToyasCard.lean, 'card_holds'). Laid BY PROGRAM, IN A SANDBOX (cutbox-door.mjs). By AI agents, Wed Nov 11 2026. No macro, syntax, notation, axiom, sorry.
-/
import Derived.Test.YthnejjamalmhgaaGreatDoorRows
import GoSem.ClaimSeven
namespace Go.Proofs.YthnejjamalmhgaaGreatDoor
namespace Rows

/-- THE TIED CARD OF 'laws.FnExactPlcHear'. -/
def fnExactPlcHearCard : Claim7 := { stood := { row := fnExactPlcHearRow, standIns := [], harness := (true, "c504e2601b096009fbe1c508048d9b17bb6bd310d1f556b580410caac316ad72"), looks := false }, kinds := [], alts := [], laidByText := true, laidKinds := [.data, .data, .data, .data, .pinned], laidTests := true, laidLooks := .later }
def FnExactPlcHearCardSaid : Prop := Claim7.holds Tryz.pinned (.plain (OpenSpec.ofChange fnExactPlcHearSpec)) fnExactPlcHearCard

/-- THE TIED CARD OF 'laws.FnPlcLate'. -/
def fnPlcLateCard : Claim7 := { stood := { row := fnPlcLateRow, standIns := [], harness := (true, "c504e2601b096009fbe1c508048d9b17bb6bd310d1f556b580410caac316ad72"), looks := false }, kinds := [], alts := [], laidByText := true, laidKinds := [.data, .data, .data, .data, .pinned], laidTests := true, laidLooks := .later }
def FnPlcLateCardSaid : Prop := Claim7.holds Tryz.pinned (.plain (OpenSpec.ofChange fnPlcLateSpec)) fnPlcLateCard

/-- THE TIED CARD OF 'laws.FnPlcTwice'. -/
def fnPlcTwiceCard : Claim7 := { stood := { row := fnPlcTwiceRow, standIns := [], harness := (true, "c504e2601b096009fbe1c508048d9b17bb6bd310d1f556b580410caac316ad72"), looks := false }, kinds := [], alts := [], laidByText := true, laidKinds := [.data, .data, .data, .data, .pinned], laidTests := true, laidLooks := .later }
def FnPlcTwiceCardSaid : Prop := Claim7.holds Tryz.pinned (.plain (OpenSpec.ofChange fnPlcTwiceSpec)) fnPlcTwiceCard

/-- THE TIED CARD OF 'laws.FnPlcSays'. -/
def fnPlcSaysCard : Claim7 := { stood := { row := fnPlcSaysRow, standIns := [], harness := (true, "c504e2601b096009fbe1c508048d9b17bb6bd310d1f556b580410caac316ad72"), looks := false }, kinds := [], alts := [], laidByText := true, laidKinds := [.data, .data, .data, .data, .pinned], laidTests := true, laidLooks := .later }
def FnPlcSaysCardSaid : Prop := Claim7.holds Tryz.pinned (.plain (OpenSpec.ofChange fnPlcSaysSpec)) fnPlcSaysCard

/-- THE TIED CARD OF 'laws.FnPlcApart'. -/
def fnPlcApartCard : Claim7 := { stood := { row := fnPlcApartRow, standIns := [], harness := (true, "c504e2601b096009fbe1c508048d9b17bb6bd310d1f556b580410caac316ad72"), looks := false }, kinds := [], alts := [], laidByText := true, laidKinds := [.data, .data, .data, .data, .pinned], laidTests := true, laidLooks := .later }
def FnPlcApartCardSaid : Prop := Claim7.holds Tryz.pinned (.plain (OpenSpec.ofChange fnPlcApartSpec)) fnPlcApartCard

/-- THE TIED CARD OF 'laws.FnPlcKnows'. -/
def fnPlcKnowsCard : Claim7 := { stood := { row := fnPlcKnowsRow, standIns := [], harness := (true, "c504e2601b096009fbe1c508048d9b17bb6bd310d1f556b580410caac316ad72"), looks := false }, kinds := [], alts := [], laidByText := true, laidKinds := [.data, .data, .data, .data, .pinned], laidTests := true, laidLooks := .later }
def FnPlcKnowsCardSaid : Prop := Claim7.holds Tryz.pinned (.plain (OpenSpec.ofChange fnPlcKnowsSpec)) fnPlcKnowsCard

/-- THE TIED CARD OF 'laws.FnPlcHear'. -/
def fnPlcHearCard : Claim7 := { stood := { row := fnPlcHearRow, standIns := [], harness := (true, "c504e2601b096009fbe1c508048d9b17bb6bd310d1f556b580410caac316ad72"), looks := false }, kinds := [], alts := [], laidByText := true, laidKinds := [.data, .data, .data, .data, .pinned], laidTests := true, laidLooks := .later }
def FnPlcHearCardSaid : Prop := Claim7.holds Tryz.pinned (.plain (OpenSpec.ofChange fnPlcHearSpec)) fnPlcHearCard

/-- THE TIED CARD OF 'laws.FnPlcFall'. -/
def fnPlcFallCard : Claim7 := { stood := { row := fnPlcFallRow, standIns := [], harness := (true, "c504e2601b096009fbe1c508048d9b17bb6bd310d1f556b580410caac316ad72"), looks := false }, kinds := [], alts := [], laidByText := true, laidKinds := [.data, .data, .data, .data, .pinned], laidTests := true, laidLooks := .later }
def FnPlcFallCardSaid : Prop := Claim7.holds Tryz.pinned (.plain (OpenSpec.ofChange fnPlcFallSpec)) fnPlcFallCard

/-- THE SECOND FORM's CARD OF 'laws.FnExactPlcHear'. -/
def fnExactPlcHearUptoCard : Claim7 := { stood := { row := fnExactPlcHearUptoRow, standIns := [], harness := (true, "c504e2601b096009fbe1c508048d9b17bb6bd310d1f556b580410caac316ad72"), looks := false }, kinds := [], alts := [], laidByText := true, laidKinds := [.data, .data, .data, .data, .pinned], laidTests := true, laidLooks := .later }
def FnExactPlcHearUptoCardSaid : Prop := Claim7.holds Tryz.pinned (.plain (OpenSpec.upto fnExactPlcHearSpec)) fnExactPlcHearUptoCard

/-- THE SECOND FORM's CARD OF 'laws.FnPlcLate'. -/
def fnPlcLateUptoCard : Claim7 := { stood := { row := fnPlcLateUptoRow, standIns := [], harness := (true, "c504e2601b096009fbe1c508048d9b17bb6bd310d1f556b580410caac316ad72"), looks := false }, kinds := [], alts := [], laidByText := true, laidKinds := [.data, .data, .data, .data, .pinned], laidTests := true, laidLooks := .later }
def FnPlcLateUptoCardSaid : Prop := Claim7.holds Tryz.pinned (.plain (OpenSpec.upto fnPlcLateSpec)) fnPlcLateUptoCard

/-- THE SECOND FORM's CARD OF 'laws.FnPlcTwice'. -/
def fnPlcTwiceUptoCard : Claim7 := { stood := { row := fnPlcTwiceUptoRow, standIns := [], harness := (true, "c504e2601b096009fbe1c508048d9b17bb6bd310d1f556b580410caac316ad72"), looks := false }, kinds := [], alts := [], laidByText := true, laidKinds := [.data, .data, .data, .data, .pinned], laidTests := true, laidLooks := .later }
def FnPlcTwiceUptoCardSaid : Prop := Claim7.holds Tryz.pinned (.plain (OpenSpec.upto fnPlcTwiceSpec)) fnPlcTwiceUptoCard

/-- THE SECOND FORM's CARD OF 'laws.FnPlcSays'. -/
def fnPlcSaysUptoCard : Claim7 := { stood := { row := fnPlcSaysUptoRow, standIns := [], harness := (true, "c504e2601b096009fbe1c508048d9b17bb6bd310d1f556b580410caac316ad72"), looks := false }, kinds := [], alts := [], laidByText := true, laidKinds := [.data, .data, .data, .data, .pinned], laidTests := true, laidLooks := .later }
def FnPlcSaysUptoCardSaid : Prop := Claim7.holds Tryz.pinned (.plain (OpenSpec.upto fnPlcSaysSpec)) fnPlcSaysUptoCard

/-- THE SECOND FORM's CARD OF 'laws.FnPlcApart'. -/
def fnPlcApartUptoCard : Claim7 := { stood := { row := fnPlcApartUptoRow, standIns := [], harness := (true, "c504e2601b096009fbe1c508048d9b17bb6bd310d1f556b580410caac316ad72"), looks := false }, kinds := [], alts := [], laidByText := true, laidKinds := [.data, .data, .data, .data, .pinned], laidTests := true, laidLooks := .later }
def FnPlcApartUptoCardSaid : Prop := Claim7.holds Tryz.pinned (.plain (OpenSpec.upto fnPlcApartSpec)) fnPlcApartUptoCard

/-- THE SECOND FORM's CARD OF 'laws.FnPlcKnows'. -/
def fnPlcKnowsUptoCard : Claim7 := { stood := { row := fnPlcKnowsUptoRow, standIns := [], harness := (true, "c504e2601b096009fbe1c508048d9b17bb6bd310d1f556b580410caac316ad72"), looks := false }, kinds := [], alts := [], laidByText := true, laidKinds := [.data, .data, .data, .data, .pinned], laidTests := true, laidLooks := .later }
def FnPlcKnowsUptoCardSaid : Prop := Claim7.holds Tryz.pinned (.plain (OpenSpec.upto fnPlcKnowsSpec)) fnPlcKnowsUptoCard

/-- THE SECOND FORM's CARD OF 'laws.FnPlcHear'. -/
def fnPlcHearUptoCard : Claim7 := { stood := { row := fnPlcHearUptoRow, standIns := [], harness := (true, "c504e2601b096009fbe1c508048d9b17bb6bd310d1f556b580410caac316ad72"), looks := false }, kinds := [], alts := [], laidByText := true, laidKinds := [.data, .data, .data, .data, .pinned], laidTests := true, laidLooks := .later }
def FnPlcHearUptoCardSaid : Prop := Claim7.holds Tryz.pinned (.plain (OpenSpec.upto fnPlcHearSpec)) fnPlcHearUptoCard

/-- THE SECOND FORM's CARD OF 'laws.FnPlcFall'. -/
def fnPlcFallUptoCard : Claim7 := { stood := { row := fnPlcFallUptoRow, standIns := [], harness := (true, "c504e2601b096009fbe1c508048d9b17bb6bd310d1f556b580410caac316ad72"), looks := false }, kinds := [], alts := [], laidByText := true, laidKinds := [.data, .data, .data, .data, .pinned], laidTests := true, laidLooks := .later }
def FnPlcFallUptoCardSaid : Prop := Claim7.holds Tryz.pinned (.plain (OpenSpec.upto fnPlcFallSpec)) fnPlcFallUptoCard
end Rows
end Go.Proofs.YthnejjamalmhgaaGreatDoor
