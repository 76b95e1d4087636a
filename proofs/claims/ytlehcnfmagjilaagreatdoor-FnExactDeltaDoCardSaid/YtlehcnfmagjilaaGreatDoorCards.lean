/-
  DERIVED. GIVEN WITH THE SEED: THE CARDS: each row of YtlehcnfmagjilaaGreatDoorRows.lean that lists a variable, with what it lists TIED to the program's text (the seventh form; the later family's looks); each row that meets fmt, with fmt's text TOLD by the authors' own Lean function (tested against real Go, not proved from fmt's source: count such statements apart). THE CARD IS WHAT COUNTS. Prove the row's statement (the work); the ties are given (YtlehcnfmagjilaaGreatDoorTie.lean); close each card by the builder's one call (the guide's Derived/Test/ToyasCard.lean, 'card_holds'). Laid BY PROGRAM, IN A SANDBOX (cutbox-door.mjs). By AI agents, Wed Nov 11 2026. No macro, syntax, notation, axiom, sorry.
-/
import Derived.Test.YtlehcnfmagjilaaGreatDoorRows
import GoSem.ClaimSeven
namespace Go.Proofs.YtlehcnfmagjilaaGreatDoor
namespace Rows

/-- THE TIED CARD OF 'laws.FnExactRibTell'. -/
def fnExactRibTellCard : Claim7 := { stood := { row := fnExactRibTellRow, standIns := [], harness := (true, "fc3e8895cb553b5a34913d6e84ede890318e12d609a9d7aa3e0c9120fbb06dd7"), looks := true }, kinds := [], alts := [], laidByText := true, laidKinds := [.data, .data, .data, .handle, .sentinel], laidTests := true, laidLooks := .later }
def FnExactRibTellCardSaid : Prop := Claim7.holds Tryz.pinned (.plain (OpenSpec.ofChange fnExactRibTellSpec)) fnExactRibTellCard

/-- THE TIED CARD OF 'laws.FnExactDeltaDo'. -/
def fnExactDeltaDoCard : Claim7 := { stood := { row := fnExactDeltaDoRow, standIns := [], harness := (true, "fc3e8895cb553b5a34913d6e84ede890318e12d609a9d7aa3e0c9120fbb06dd7"), looks := true }, kinds := [], alts := [], laidByText := true, laidKinds := [.data, .data, .data, .sentinel], laidTests := true, laidLooks := .later }
def FnExactDeltaDoCardSaid : Prop := Claim7.holds Tryz.pinned (.plain (OpenSpec.ofChange fnExactDeltaDoSpec)) fnExactDeltaDoCard

/-- THE SECOND FORM's CARD OF 'laws.FnExactRibTell'. -/
def fnExactRibTellUptoCard : Claim7 := { stood := { row := fnExactRibTellUptoRow, standIns := [], harness := (true, "fc3e8895cb553b5a34913d6e84ede890318e12d609a9d7aa3e0c9120fbb06dd7"), looks := true }, kinds := [], alts := [], laidByText := true, laidKinds := [.data, .data, .data, .handle, .sentinel], laidTests := true, laidLooks := .later }
def FnExactRibTellUptoCardSaid : Prop := Claim7.holds Tryz.pinned (.plain (OpenSpec.upto fnExactRibTellSpec)) fnExactRibTellUptoCard

/-- THE SECOND FORM's CARD OF 'laws.FnExactDeltaDo'. -/
def fnExactDeltaDoUptoCard : Claim7 := { stood := { row := fnExactDeltaDoUptoRow, standIns := [], harness := (true, "fc3e8895cb553b5a34913d6e84ede890318e12d609a9d7aa3e0c9120fbb06dd7"), looks := true }, kinds := [], alts := [], laidByText := true, laidKinds := [.data, .data, .data, .sentinel], laidTests := true, laidLooks := .later }
def FnExactDeltaDoUptoCardSaid : Prop := Claim7.holds Tryz.pinned (.plain (OpenSpec.upto fnExactDeltaDoSpec)) fnExactDeltaDoUptoCard
end Rows
end Go.Proofs.YtlehcnfmagjilaaGreatDoor
