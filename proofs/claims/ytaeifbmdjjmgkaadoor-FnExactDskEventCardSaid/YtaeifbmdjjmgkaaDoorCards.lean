/-
  DERIVED. GIVEN WITH THE SEED: THE CARDS: each row of YtaeifbmdjjmgkaaDoorRows.lean that lists a variable, with what it lists TIED to the program's text (the seventh form; the later family's looks); each row that meets fmt, with fmt's text TOLD by the authors' own Lean function (tested against real Go, not proved from fmt's source: count such statements apart). THE CARD IS WHAT COUNTS. Prove the row's statement (the work); the ties are given (YtaeifbmdjjmgkaaDoorTie.lean); close each card by the builder's one call (the guide's Derived/Test/ToyasCard.lean, 'card_holds'). Laid BY PROGRAM, IN A SANDBOX (cutbox-door.mjs). By AI agents, Wed Nov 11 2026. No macro, syntax, notation, axiom, sorry.
-/
import Derived.Test.YtaeifbmdjjmgkaaDoorRows
import GoSem.ClaimSeven
namespace Go.Proofs.YtaeifbmdjjmgkaaDoor
namespace Rows

/-- THE TIED CARD OF 'laws.FnExactDskText'. -/
def fnExactDskTextCard : Claim7 := { stood := { row := fnExactDskTextRow, standIns := [], harness := (true, "b85c06fb950c5b2e9dd58b8bab4b11e64ac5f731e9eb7ac3d03199607b3b2280"), looks := true }, kinds := [], alts := [], laidByText := true, laidKinds := [.data, .data, .data], laidTests := true, laidLooks := .later }
def FnExactDskTextCardSaid : Prop := Claim7.holds Tryd.pinned (.plain (OpenSpec.ofChange fnExactDskTextSpec)) fnExactDskTextCard

/-- THE TIED CARD OF 'laws.FnExactDskEvent'. -/
def fnExactDskEventCard : Claim7 := { stood := { row := fnExactDskEventRow, standIns := [], harness := (true, "b85c06fb950c5b2e9dd58b8bab4b11e64ac5f731e9eb7ac3d03199607b3b2280"), looks := true }, kinds := [], alts := [], laidByText := true, laidKinds := [.data, .data, .data, .data, .sentinel, .sentinel, .pinned], laidTests := true, laidLooks := .later }
def FnExactDskEventCardSaid : Prop := Claim7.holds Tryd.pinned (.plain (OpenSpec.ofChange fnExactDskEventSpec)) fnExactDskEventCard

/-- THE SECOND FORM's CARD OF 'laws.FnExactDskText'. -/
def fnExactDskTextUptoCard : Claim7 := { stood := { row := fnExactDskTextUptoRow, standIns := [], harness := (true, "b85c06fb950c5b2e9dd58b8bab4b11e64ac5f731e9eb7ac3d03199607b3b2280"), looks := true }, kinds := [], alts := [], laidByText := true, laidKinds := [.data, .data, .data], laidTests := true, laidLooks := .later }
def FnExactDskTextUptoCardSaid : Prop := Claim7.holds Tryd.pinned (.plain (OpenSpec.upto fnExactDskTextSpec)) fnExactDskTextUptoCard

/-- THE SECOND FORM's CARD OF 'laws.FnExactDskEvent'. -/
def fnExactDskEventUptoCard : Claim7 := { stood := { row := fnExactDskEventUptoRow, standIns := [], harness := (true, "b85c06fb950c5b2e9dd58b8bab4b11e64ac5f731e9eb7ac3d03199607b3b2280"), looks := true }, kinds := [], alts := [], laidByText := true, laidKinds := [.data, .data, .data, .data, .sentinel, .sentinel, .pinned], laidTests := true, laidLooks := .later }
def FnExactDskEventUptoCardSaid : Prop := Claim7.holds Tryd.pinned (.plain (OpenSpec.upto fnExactDskEventSpec)) fnExactDskEventUptoCard
end Rows
end Go.Proofs.YtaeifbmdjjmgkaaDoor
