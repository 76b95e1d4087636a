/-
  DERIVED. GIVEN WITH THE SEED: THE CARDS: each row of YtbbjkgdmjbddgaaDoorRows.lean that lists a variable, with what it lists TIED to the program's text (the seventh form; the later family's looks); each row that meets fmt, with fmt's text TOLD by the authors' own Lean function (tested against real Go, not proved from fmt's source: count such statements apart). THE CARD IS WHAT COUNTS. Prove the row's statement (the work); the ties are given (YtbbjkgdmjbddgaaDoorTie.lean); close each card by the builder's one call (the guide's Derived/Test/ToyasCard.lean, 'card_holds'). Laid BY PROGRAM, IN A SANDBOX (cutbox-door.mjs). By AI agents, Wed Nov 11 2026. No macro, syntax, notation, axiom, sorry.
-/
import Derived.Test.YtbbjkgdmjbddgaaDoorRows
import GoSem.ClaimSeven
namespace Go.Proofs.YtbbjkgdmjbddgaaDoor
namespace Rows

/-- THE TIED CARD OF 'laws.FnExactRibFind'. -/
def fnExactRibFindCard : Claim7 := { stood := { row := fnExactRibFindRow, standIns := [], harness := (true, "0cfb3686e43a7dbdc60cb604fb3e2278af9ffe8a42f3913026057efa7dc82bec"), looks := true }, kinds := [], alts := [], laidByText := true, laidKinds := [.data, .data, .data, .sentinel], laidTests := true, laidLooks := .later }
def FnExactRibFindCardSaid : Prop := Claim7.holds Tryd.pinned (.plain (OpenSpec.ofChange fnExactRibFindSpec)) fnExactRibFindCard

/-- THE TIED CARD OF 'laws.FnExactRibUp'. -/
def fnExactRibUpCard : Claim7 := { stood := { row := fnExactRibUpRow, standIns := [], harness := (true, "0cfb3686e43a7dbdc60cb604fb3e2278af9ffe8a42f3913026057efa7dc82bec"), looks := true }, kinds := [], alts := [], laidByText := true, laidKinds := [.data, .data, .data, .sentinel], laidTests := true, laidLooks := .later }
def FnExactRibUpCardSaid : Prop := Claim7.holds Tryd.pinned (.plain (OpenSpec.ofChange fnExactRibUpSpec)) fnExactRibUpCard

/-- THE TIED CARD OF 'laws.FnExactRibEnd'. -/
def fnExactRibEndCard : Claim7 := { stood := { row := fnExactRibEndRow, standIns := [], harness := (true, "0cfb3686e43a7dbdc60cb604fb3e2278af9ffe8a42f3913026057efa7dc82bec"), looks := true }, kinds := [], alts := [], laidByText := true, laidKinds := [.data, .data, .data, .sentinel], laidTests := true, laidLooks := .later }
def FnExactRibEndCardSaid : Prop := Claim7.holds Tryd.pinned (.plain (OpenSpec.ofChange fnExactRibEndSpec)) fnExactRibEndCard

/-- THE TIED CARD OF 'laws.FnExactRibDown'. -/
def fnExactRibDownCard : Claim7 := { stood := { row := fnExactRibDownRow, standIns := [], harness := (true, "0cfb3686e43a7dbdc60cb604fb3e2278af9ffe8a42f3913026057efa7dc82bec"), looks := true }, kinds := [], alts := [], laidByText := true, laidKinds := [.data, .data, .data, .sentinel], laidTests := true, laidLooks := .later }
def FnExactRibDownCardSaid : Prop := Claim7.holds Tryd.pinned (.plain (OpenSpec.ofChange fnExactRibDownSpec)) fnExactRibDownCard

/-- THE TIED CARD OF 'laws.FnExactRouteBest'. -/
def fnExactRouteBestCard : Claim7 := { stood := { row := fnExactRouteBestRow, standIns := [], harness := (true, "0cfb3686e43a7dbdc60cb604fb3e2278af9ffe8a42f3913026057efa7dc82bec"), looks := true }, kinds := [], alts := [], laidByText := true, laidKinds := [.data, .data, .data, .sentinel], laidTests := true, laidLooks := .later }
def FnExactRouteBestCardSaid : Prop := Claim7.holds Tryd.pinned (.plain (OpenSpec.ofChange fnExactRouteBestSpec)) fnExactRouteBestCard

/-- THE TIED CARD OF 'laws.FnExactDeltaOf'. -/
def fnExactDeltaOfCard : Claim7 := { stood := { row := fnExactDeltaOfRow, standIns := [], harness := (true, "0cfb3686e43a7dbdc60cb604fb3e2278af9ffe8a42f3913026057efa7dc82bec"), looks := true }, kinds := [], alts := [], laidByText := true, laidKinds := [.data, .data, .data, .sentinel], laidTests := true, laidLooks := .later }
def FnExactDeltaOfCardSaid : Prop := Claim7.holds Tryd.pinned (.plain (OpenSpec.ofChange fnExactDeltaOfSpec)) fnExactDeltaOfCard

/-- THE SECOND FORM's CARD OF 'laws.FnExactRibFind'. -/
def fnExactRibFindUptoCard : Claim7 := { stood := { row := fnExactRibFindUptoRow, standIns := [], harness := (true, "0cfb3686e43a7dbdc60cb604fb3e2278af9ffe8a42f3913026057efa7dc82bec"), looks := true }, kinds := [], alts := [], laidByText := true, laidKinds := [.data, .data, .data, .sentinel], laidTests := true, laidLooks := .later }
def FnExactRibFindUptoCardSaid : Prop := Claim7.holds Tryd.pinned (.plain (OpenSpec.upto fnExactRibFindSpec)) fnExactRibFindUptoCard

/-- THE SECOND FORM's CARD OF 'laws.FnExactRibUp'. -/
def fnExactRibUpUptoCard : Claim7 := { stood := { row := fnExactRibUpUptoRow, standIns := [], harness := (true, "0cfb3686e43a7dbdc60cb604fb3e2278af9ffe8a42f3913026057efa7dc82bec"), looks := true }, kinds := [], alts := [], laidByText := true, laidKinds := [.data, .data, .data, .sentinel], laidTests := true, laidLooks := .later }
def FnExactRibUpUptoCardSaid : Prop := Claim7.holds Tryd.pinned (.plain (OpenSpec.upto fnExactRibUpSpec)) fnExactRibUpUptoCard

/-- THE SECOND FORM's CARD OF 'laws.FnExactRibEnd'. -/
def fnExactRibEndUptoCard : Claim7 := { stood := { row := fnExactRibEndUptoRow, standIns := [], harness := (true, "0cfb3686e43a7dbdc60cb604fb3e2278af9ffe8a42f3913026057efa7dc82bec"), looks := true }, kinds := [], alts := [], laidByText := true, laidKinds := [.data, .data, .data, .sentinel], laidTests := true, laidLooks := .later }
def FnExactRibEndUptoCardSaid : Prop := Claim7.holds Tryd.pinned (.plain (OpenSpec.upto fnExactRibEndSpec)) fnExactRibEndUptoCard

/-- THE SECOND FORM's CARD OF 'laws.FnExactRibDown'. -/
def fnExactRibDownUptoCard : Claim7 := { stood := { row := fnExactRibDownUptoRow, standIns := [], harness := (true, "0cfb3686e43a7dbdc60cb604fb3e2278af9ffe8a42f3913026057efa7dc82bec"), looks := true }, kinds := [], alts := [], laidByText := true, laidKinds := [.data, .data, .data, .sentinel], laidTests := true, laidLooks := .later }
def FnExactRibDownUptoCardSaid : Prop := Claim7.holds Tryd.pinned (.plain (OpenSpec.upto fnExactRibDownSpec)) fnExactRibDownUptoCard

/-- THE SECOND FORM's CARD OF 'laws.FnExactRouteBest'. -/
def fnExactRouteBestUptoCard : Claim7 := { stood := { row := fnExactRouteBestUptoRow, standIns := [], harness := (true, "0cfb3686e43a7dbdc60cb604fb3e2278af9ffe8a42f3913026057efa7dc82bec"), looks := true }, kinds := [], alts := [], laidByText := true, laidKinds := [.data, .data, .data, .sentinel], laidTests := true, laidLooks := .later }
def FnExactRouteBestUptoCardSaid : Prop := Claim7.holds Tryd.pinned (.plain (OpenSpec.upto fnExactRouteBestSpec)) fnExactRouteBestUptoCard

/-- THE SECOND FORM's CARD OF 'laws.FnExactDeltaOf'. -/
def fnExactDeltaOfUptoCard : Claim7 := { stood := { row := fnExactDeltaOfUptoRow, standIns := [], harness := (true, "0cfb3686e43a7dbdc60cb604fb3e2278af9ffe8a42f3913026057efa7dc82bec"), looks := true }, kinds := [], alts := [], laidByText := true, laidKinds := [.data, .data, .data, .sentinel], laidTests := true, laidLooks := .later }
def FnExactDeltaOfUptoCardSaid : Prop := Claim7.holds Tryd.pinned (.plain (OpenSpec.upto fnExactDeltaOfSpec)) fnExactDeltaOfUptoCard
end Rows
end Go.Proofs.YtbbjkgdmjbddgaaDoor
