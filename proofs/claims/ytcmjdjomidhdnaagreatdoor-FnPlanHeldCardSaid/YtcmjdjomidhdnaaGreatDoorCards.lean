/-
  DERIVED. GIVEN WITH THE SEED: THE CARDS: each row of YtcmjdjomidhdnaaGreatDoorRows.lean that lists a variable, with what it lists TIED to the program's text (the seventh form; the later family's looks); each row that meets fmt, with fmt's text TOLD by the authors' own Lean function (tested against real Go, not proved from fmt's source: count such statements apart). THE CARD IS WHAT COUNTS. Prove the row's statement (the work); the ties are given (YtcmjdjomidhdnaaGreatDoorTie.lean); close each card by the builder's one call (the guide's Derived/Test/ToyasCard.lean, 'card_holds'). Laid BY PROGRAM, IN A SANDBOX (cutbox-door.mjs). By AI agents, Wed Nov 11 2026. No macro, syntax, notation, axiom, sorry.
-/
import Derived.Test.YtcmjdjomidhdnaaGreatDoorRows
import GoSem.ClaimSeven
namespace Go.Proofs.YtcmjdjomidhdnaaGreatDoor
namespace Rows

/-- THE TIED CARD OF 'laws.FnGloTx'. -/
def fnGloTxCard : Claim7 := { stood := { row := fnGloTxRow, standIns := [], harness := (true, "e1e71663ba023c347da57c0beb8253b3a6297c794a79da1daa348594aa15f1b9"), looks := false }, kinds := [], alts := [], laidByText := true, laidKinds := [.data, .data, .data, .data, .pinned], laidTests := true, laidLooks := .later }
def FnGloTxCardSaid : Prop := Claim7.holds Tryz.pinned (.plain (OpenSpec.ofChange fnGloTxSpec)) fnGloTxCard

/-- THE TIED CARD OF 'laws.FnPlanOnce'. -/
def fnPlanOnceCard : Claim7 := { stood := { row := fnPlanOnceRow, standIns := [], harness := (true, "e1e71663ba023c347da57c0beb8253b3a6297c794a79da1daa348594aa15f1b9"), looks := false }, kinds := [], alts := [], laidByText := true, laidKinds := [.data, .data, .data, .data, .pinned], laidTests := true, laidLooks := .later }
def FnPlanOnceCardSaid : Prop := Claim7.holds Tryz.pinned (.plain (OpenSpec.ofChange fnPlanOnceSpec)) fnPlanOnceCard

/-- THE TIED CARD OF 'laws.FnGloApart'. -/
def fnGloApartCard : Claim7 := { stood := { row := fnGloApartRow, standIns := [], harness := (true, "e1e71663ba023c347da57c0beb8253b3a6297c794a79da1daa348594aa15f1b9"), looks := false }, kinds := [], alts := [], laidByText := true, laidKinds := [.data, .data, .data, .data, .pinned], laidTests := true, laidLooks := .later }
def FnGloApartCardSaid : Prop := Claim7.holds Tryz.pinned (.plain (OpenSpec.ofChange fnGloApartSpec)) fnGloApartCard

/-- THE TIED CARD OF 'laws.FnGloDo'. -/
def fnGloDoCard : Claim7 := { stood := { row := fnGloDoRow, standIns := [], harness := (true, "e1e71663ba023c347da57c0beb8253b3a6297c794a79da1daa348594aa15f1b9"), looks := false }, kinds := [], alts := [], laidByText := true, laidKinds := [.data, .data, .data, .data, .pinned], laidTests := true, laidLooks := .later }
def FnGloDoCardSaid : Prop := Claim7.holds Tryz.pinned (.plain (OpenSpec.ofChange fnGloDoSpec)) fnGloDoCard

/-- THE TIED CARD OF 'laws.FnPlcPlan'. -/
def fnPlcPlanCard : Claim7 := { stood := { row := fnPlcPlanRow, standIns := [], harness := (true, "e1e71663ba023c347da57c0beb8253b3a6297c794a79da1daa348594aa15f1b9"), looks := false }, kinds := [], alts := [], laidByText := true, laidKinds := [.data, .data, .data, .data, .pinned], laidTests := true, laidLooks := .later }
def FnPlcPlanCardSaid : Prop := Claim7.holds Tryz.pinned (.plain (OpenSpec.ofChange fnPlcPlanSpec)) fnPlcPlanCard

/-- THE TIED CARD OF 'laws.FnPlanHeld'. -/
def fnPlanHeldCard : Claim7 := { stood := { row := fnPlanHeldRow, standIns := [], harness := (true, "e1e71663ba023c347da57c0beb8253b3a6297c794a79da1daa348594aa15f1b9"), looks := false }, kinds := [], alts := [], laidByText := true, laidKinds := [.data, .data, .data, .data, .pinned], laidTests := true, laidLooks := .later }
def FnPlanHeldCardSaid : Prop := Claim7.holds Tryz.pinned (.plain (OpenSpec.ofChange fnPlanHeldSpec)) fnPlanHeldCard

/-- THE TIED CARD OF 'laws.FnExactGloDo'. -/
def fnExactGloDoCard : Claim7 := { stood := { row := fnExactGloDoRow, standIns := [], harness := (true, "e1e71663ba023c347da57c0beb8253b3a6297c794a79da1daa348594aa15f1b9"), looks := false }, kinds := [], alts := [], laidByText := true, laidKinds := [.data, .data, .data, .data, .pinned], laidTests := true, laidLooks := .later }
def FnExactGloDoCardSaid : Prop := Claim7.holds Tryz.pinned (.plain (OpenSpec.ofChange fnExactGloDoSpec)) fnExactGloDoCard

/-- THE SECOND FORM's CARD OF 'laws.FnGloTx'. -/
def fnGloTxUptoCard : Claim7 := { stood := { row := fnGloTxUptoRow, standIns := [], harness := (true, "e1e71663ba023c347da57c0beb8253b3a6297c794a79da1daa348594aa15f1b9"), looks := false }, kinds := [], alts := [], laidByText := true, laidKinds := [.data, .data, .data, .data, .pinned], laidTests := true, laidLooks := .later }
def FnGloTxUptoCardSaid : Prop := Claim7.holds Tryz.pinned (.plain (OpenSpec.upto fnGloTxSpec)) fnGloTxUptoCard

/-- THE SECOND FORM's CARD OF 'laws.FnPlanOnce'. -/
def fnPlanOnceUptoCard : Claim7 := { stood := { row := fnPlanOnceUptoRow, standIns := [], harness := (true, "e1e71663ba023c347da57c0beb8253b3a6297c794a79da1daa348594aa15f1b9"), looks := false }, kinds := [], alts := [], laidByText := true, laidKinds := [.data, .data, .data, .data, .pinned], laidTests := true, laidLooks := .later }
def FnPlanOnceUptoCardSaid : Prop := Claim7.holds Tryz.pinned (.plain (OpenSpec.upto fnPlanOnceSpec)) fnPlanOnceUptoCard

/-- THE SECOND FORM's CARD OF 'laws.FnGloApart'. -/
def fnGloApartUptoCard : Claim7 := { stood := { row := fnGloApartUptoRow, standIns := [], harness := (true, "e1e71663ba023c347da57c0beb8253b3a6297c794a79da1daa348594aa15f1b9"), looks := false }, kinds := [], alts := [], laidByText := true, laidKinds := [.data, .data, .data, .data, .pinned], laidTests := true, laidLooks := .later }
def FnGloApartUptoCardSaid : Prop := Claim7.holds Tryz.pinned (.plain (OpenSpec.upto fnGloApartSpec)) fnGloApartUptoCard

/-- THE SECOND FORM's CARD OF 'laws.FnGloDo'. -/
def fnGloDoUptoCard : Claim7 := { stood := { row := fnGloDoUptoRow, standIns := [], harness := (true, "e1e71663ba023c347da57c0beb8253b3a6297c794a79da1daa348594aa15f1b9"), looks := false }, kinds := [], alts := [], laidByText := true, laidKinds := [.data, .data, .data, .data, .pinned], laidTests := true, laidLooks := .later }
def FnGloDoUptoCardSaid : Prop := Claim7.holds Tryz.pinned (.plain (OpenSpec.upto fnGloDoSpec)) fnGloDoUptoCard

/-- THE SECOND FORM's CARD OF 'laws.FnPlcPlan'. -/
def fnPlcPlanUptoCard : Claim7 := { stood := { row := fnPlcPlanUptoRow, standIns := [], harness := (true, "e1e71663ba023c347da57c0beb8253b3a6297c794a79da1daa348594aa15f1b9"), looks := false }, kinds := [], alts := [], laidByText := true, laidKinds := [.data, .data, .data, .data, .pinned], laidTests := true, laidLooks := .later }
def FnPlcPlanUptoCardSaid : Prop := Claim7.holds Tryz.pinned (.plain (OpenSpec.upto fnPlcPlanSpec)) fnPlcPlanUptoCard

/-- THE SECOND FORM's CARD OF 'laws.FnPlanHeld'. -/
def fnPlanHeldUptoCard : Claim7 := { stood := { row := fnPlanHeldUptoRow, standIns := [], harness := (true, "e1e71663ba023c347da57c0beb8253b3a6297c794a79da1daa348594aa15f1b9"), looks := false }, kinds := [], alts := [], laidByText := true, laidKinds := [.data, .data, .data, .data, .pinned], laidTests := true, laidLooks := .later }
def FnPlanHeldUptoCardSaid : Prop := Claim7.holds Tryz.pinned (.plain (OpenSpec.upto fnPlanHeldSpec)) fnPlanHeldUptoCard

/-- THE SECOND FORM's CARD OF 'laws.FnExactGloDo'. -/
def fnExactGloDoUptoCard : Claim7 := { stood := { row := fnExactGloDoUptoRow, standIns := [], harness := (true, "e1e71663ba023c347da57c0beb8253b3a6297c794a79da1daa348594aa15f1b9"), looks := false }, kinds := [], alts := [], laidByText := true, laidKinds := [.data, .data, .data, .data, .pinned], laidTests := true, laidLooks := .later }
def FnExactGloDoUptoCardSaid : Prop := Claim7.holds Tryz.pinned (.plain (OpenSpec.upto fnExactGloDoSpec)) fnExactGloDoUptoCard
end Rows
end Go.Proofs.YtcmjdjomidhdnaaGreatDoor
