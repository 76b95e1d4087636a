/-
  DERIVED. GIVEN WITH THE SEED: THE CARDS: each row of YtlehcnfmagjilaaDoorRows.lean that lists a variable, with what it lists TIED to the program's text (the seventh form; the later family's looks); each row that meets fmt, with fmt's text TOLD by the authors' own Lean function (tested against real Go, not proved from fmt's source: count such statements apart). THE CARD IS WHAT COUNTS. Prove the row's statement (the work); the ties are given (YtlehcnfmagjilaaDoorTie.lean); close each card by the builder's one call (the guide's Derived/Test/ToyasCard.lean, 'card_holds'). Laid BY PROGRAM, IN A SANDBOX (cutbox-door.mjs). By AI agents, Wed Nov 11 2026. No macro, syntax, notation, axiom, sorry.
-/
import Derived.Test.YtlehcnfmagjilaaDoorRows
import GoSem.ClaimSeven
namespace Go.Proofs.YtlehcnfmagjilaaDoor
namespace Rows

/-- THE TIED CARD OF 'laws.FnExactDeltaOf'. -/
def fnExactDeltaOfCard : Claim7 := { stood := { row := fnExactDeltaOfRow, standIns := [], harness := (true, "d36e05cbda86f12698af7c7fec52ab184006bbf744a5bf72e8bffbd633a37fe9"), looks := true }, kinds := [], alts := [], laidByText := true, laidKinds := [.data, .data, .data, .sentinel], laidTests := true, laidLooks := .later }
def FnExactDeltaOfCardSaid : Prop := Claim7.holds Tryd.pinned (.plain (OpenSpec.ofChange fnExactDeltaOfSpec)) fnExactDeltaOfCard

/-- THE TIED CARD OF 'laws.FnExactRangeRead'. -/
def fnExactRangeReadCard : Claim7 := { stood := { row := fnExactRangeReadRow, standIns := [], harness := (true, "d36e05cbda86f12698af7c7fec52ab184006bbf744a5bf72e8bffbd633a37fe9"), looks := true }, kinds := [], alts := [], laidByText := true, laidKinds := [.data, .data, .data, .sentinel, .sentinel], laidTests := true, laidLooks := .later }
def FnExactRangeReadCardSaid : Prop := Claim7.holds Tryd.pinned (.plain (OpenSpec.ofChange fnExactRangeReadSpec)) fnExactRangeReadCard

/-- THE TIED CARD OF 'laws.FnExactPathRead'. -/
def fnExactPathReadCard : Claim7 := { stood := { row := fnExactPathReadRow, standIns := [], harness := (true, "d36e05cbda86f12698af7c7fec52ab184006bbf744a5bf72e8bffbd633a37fe9"), looks := true }, kinds := [], alts := [], laidByText := true, laidKinds := [.data, .data, .data, .data, .sentinel, .sentinel, .sentinel, .pinned], laidTests := true, laidLooks := .later }
def FnExactPathReadCardSaid : Prop := Claim7.holds Tryd.pinned (.plain (OpenSpec.ofChange fnExactPathReadSpec)) fnExactPathReadCard

/-- THE TIED CARD OF 'laws.FnExactRouteBest'. -/
def fnExactRouteBestCard : Claim7 := { stood := { row := fnExactRouteBestRow, standIns := [], harness := (true, "d36e05cbda86f12698af7c7fec52ab184006bbf744a5bf72e8bffbd633a37fe9"), looks := true }, kinds := [], alts := [], laidByText := true, laidKinds := [.data, .data, .data, .sentinel], laidTests := true, laidLooks := .later }
def FnExactRouteBestCardSaid : Prop := Claim7.holds Tryd.pinned (.plain (OpenSpec.ofChange fnExactRouteBestSpec)) fnExactRouteBestCard

/-- THE SECOND FORM's CARD OF 'laws.FnExactDeltaOf'. -/
def fnExactDeltaOfUptoCard : Claim7 := { stood := { row := fnExactDeltaOfUptoRow, standIns := [], harness := (true, "d36e05cbda86f12698af7c7fec52ab184006bbf744a5bf72e8bffbd633a37fe9"), looks := true }, kinds := [], alts := [], laidByText := true, laidKinds := [.data, .data, .data, .sentinel], laidTests := true, laidLooks := .later }
def FnExactDeltaOfUptoCardSaid : Prop := Claim7.holds Tryd.pinned (.plain (OpenSpec.upto fnExactDeltaOfSpec)) fnExactDeltaOfUptoCard

/-- THE SECOND FORM's CARD OF 'laws.FnExactRangeRead'. -/
def fnExactRangeReadUptoCard : Claim7 := { stood := { row := fnExactRangeReadUptoRow, standIns := [], harness := (true, "d36e05cbda86f12698af7c7fec52ab184006bbf744a5bf72e8bffbd633a37fe9"), looks := true }, kinds := [], alts := [], laidByText := true, laidKinds := [.data, .data, .data, .sentinel, .sentinel], laidTests := true, laidLooks := .later }
def FnExactRangeReadUptoCardSaid : Prop := Claim7.holds Tryd.pinned (.plain (OpenSpec.upto fnExactRangeReadSpec)) fnExactRangeReadUptoCard

/-- THE SECOND FORM's CARD OF 'laws.FnExactPathRead'. -/
def fnExactPathReadUptoCard : Claim7 := { stood := { row := fnExactPathReadUptoRow, standIns := [], harness := (true, "d36e05cbda86f12698af7c7fec52ab184006bbf744a5bf72e8bffbd633a37fe9"), looks := true }, kinds := [], alts := [], laidByText := true, laidKinds := [.data, .data, .data, .data, .sentinel, .sentinel, .sentinel, .pinned], laidTests := true, laidLooks := .later }
def FnExactPathReadUptoCardSaid : Prop := Claim7.holds Tryd.pinned (.plain (OpenSpec.upto fnExactPathReadSpec)) fnExactPathReadUptoCard

/-- THE SECOND FORM's CARD OF 'laws.FnExactRouteBest'. -/
def fnExactRouteBestUptoCard : Claim7 := { stood := { row := fnExactRouteBestUptoRow, standIns := [], harness := (true, "d36e05cbda86f12698af7c7fec52ab184006bbf744a5bf72e8bffbd633a37fe9"), looks := true }, kinds := [], alts := [], laidByText := true, laidKinds := [.data, .data, .data, .sentinel], laidTests := true, laidLooks := .later }
def FnExactRouteBestUptoCardSaid : Prop := Claim7.holds Tryd.pinned (.plain (OpenSpec.upto fnExactRouteBestSpec)) fnExactRouteBestUptoCard
end Rows
end Go.Proofs.YtlehcnfmagjilaaDoor
