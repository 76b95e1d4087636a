/-
  DERIVED. GIVEN WITH THE SEED: THE CARDS: each row of YtjeofgalgfopdaaGreatDoorRows.lean that lists a variable, with what it lists TIED to the program's text (the seventh form; the later family's looks); each row that meets fmt, with fmt's text TOLD by the authors' own Lean function (tested against real Go, not proved from fmt's source: count such statements apart). THE CARD IS WHAT COUNTS. Prove the row's statement (the work); the ties are given (YtjeofgalgfopdaaGreatDoorTie.lean); close each card by the builder's one call (the guide's Derived/Test/ToyasCard.lean, 'card_holds'). Laid BY PROGRAM, IN A SANDBOX (cutbox-door.mjs). By AI agents, Wed Nov 11 2026. No macro, syntax, notation, axiom, sorry.
-/
import Derived.Test.YtjeofgalgfopdaaGreatDoorRows
import GoSem.ClaimSeven
namespace Go.Proofs.YtjeofgalgfopdaaGreatDoor
namespace Rows

/-- THE TIED CARD OF 'laws.FnExactPolicyDo'. -/
def fnExactPolicyDoCard : Claim7 := { stood := { row := fnExactPolicyDoRow, standIns := [], harness := (true, "4271f063315020558684e00a59e086217155dce1601c0f9e7fbc7389768415ef"), looks := true }, kinds := [], alts := [], laidByText := true, laidKinds := [.data, .data, .data, .sentinel], laidTests := true, laidLooks := .later }
def FnExactPolicyDoCardSaid : Prop := Claim7.holds Tryz.pinned (.plain (OpenSpec.ofChange fnExactPolicyDoSpec)) fnExactPolicyDoCard

/-- THE TIED CARD OF 'laws.FnExactPolicyAll'. -/
def fnExactPolicyAllCard : Claim7 := { stood := { row := fnExactPolicyAllRow, standIns := [], harness := (true, "4271f063315020558684e00a59e086217155dce1601c0f9e7fbc7389768415ef"), looks := true }, kinds := [], alts := [], laidByText := true, laidKinds := [.data, .data, .data, .sentinel], laidTests := true, laidLooks := .later }
def FnExactPolicyAllCardSaid : Prop := Claim7.holds Tryz.pinned (.plain (OpenSpec.ofChange fnExactPolicyAllSpec)) fnExactPolicyAllCard

/-- THE TIED CARD OF 'laws.FnExactDeltaDo'. -/
def fnExactDeltaDoCard : Claim7 := { stood := { row := fnExactDeltaDoRow, standIns := [], harness := (true, "4271f063315020558684e00a59e086217155dce1601c0f9e7fbc7389768415ef"), looks := true }, kinds := [], alts := [], laidByText := true, laidKinds := [.data, .data, .data, .sentinel], laidTests := true, laidLooks := .later }
def FnExactDeltaDoCardSaid : Prop := Claim7.holds Tryz.pinned (.plain (OpenSpec.ofChange fnExactDeltaDoSpec)) fnExactDeltaDoCard

/-- THE TIED CARD OF 'laws.FnExactRibTell'. -/
def fnExactRibTellCard : Claim7 := { stood := { row := fnExactRibTellRow, standIns := [], harness := (true, "4271f063315020558684e00a59e086217155dce1601c0f9e7fbc7389768415ef"), looks := true }, kinds := [], alts := [], laidByText := true, laidKinds := [.data, .data, .data, .handle, .sentinel], laidTests := true, laidLooks := .later }
def FnExactRibTellCardSaid : Prop := Claim7.holds Tryz.pinned (.plain (OpenSpec.ofChange fnExactRibTellSpec)) fnExactRibTellCard

/-- THE TIED CARD OF 'laws.FnExactRibDrop'. -/
def fnExactRibDropCard : Claim7 := { stood := { row := fnExactRibDropRow, standIns := [], harness := (true, "4271f063315020558684e00a59e086217155dce1601c0f9e7fbc7389768415ef"), looks := true }, kinds := [], alts := [], laidByText := true, laidKinds := [.data, .data, .data, .handle, .sentinel], laidTests := true, laidLooks := .later }
def FnExactRibDropCardSaid : Prop := Claim7.holds Tryz.pinned (.plain (OpenSpec.ofChange fnExactRibDropSpec)) fnExactRibDropCard

/-- THE SECOND FORM's CARD OF 'laws.FnExactPolicyDo'. -/
def fnExactPolicyDoUptoCard : Claim7 := { stood := { row := fnExactPolicyDoUptoRow, standIns := [], harness := (true, "4271f063315020558684e00a59e086217155dce1601c0f9e7fbc7389768415ef"), looks := true }, kinds := [], alts := [], laidByText := true, laidKinds := [.data, .data, .data, .sentinel], laidTests := true, laidLooks := .later }
def FnExactPolicyDoUptoCardSaid : Prop := Claim7.holds Tryz.pinned (.plain (OpenSpec.upto fnExactPolicyDoSpec)) fnExactPolicyDoUptoCard

/-- THE SECOND FORM's CARD OF 'laws.FnExactPolicyAll'. -/
def fnExactPolicyAllUptoCard : Claim7 := { stood := { row := fnExactPolicyAllUptoRow, standIns := [], harness := (true, "4271f063315020558684e00a59e086217155dce1601c0f9e7fbc7389768415ef"), looks := true }, kinds := [], alts := [], laidByText := true, laidKinds := [.data, .data, .data, .sentinel], laidTests := true, laidLooks := .later }
def FnExactPolicyAllUptoCardSaid : Prop := Claim7.holds Tryz.pinned (.plain (OpenSpec.upto fnExactPolicyAllSpec)) fnExactPolicyAllUptoCard

/-- THE SECOND FORM's CARD OF 'laws.FnExactDeltaDo'. -/
def fnExactDeltaDoUptoCard : Claim7 := { stood := { row := fnExactDeltaDoUptoRow, standIns := [], harness := (true, "4271f063315020558684e00a59e086217155dce1601c0f9e7fbc7389768415ef"), looks := true }, kinds := [], alts := [], laidByText := true, laidKinds := [.data, .data, .data, .sentinel], laidTests := true, laidLooks := .later }
def FnExactDeltaDoUptoCardSaid : Prop := Claim7.holds Tryz.pinned (.plain (OpenSpec.upto fnExactDeltaDoSpec)) fnExactDeltaDoUptoCard

/-- THE SECOND FORM's CARD OF 'laws.FnExactRibTell'. -/
def fnExactRibTellUptoCard : Claim7 := { stood := { row := fnExactRibTellUptoRow, standIns := [], harness := (true, "4271f063315020558684e00a59e086217155dce1601c0f9e7fbc7389768415ef"), looks := true }, kinds := [], alts := [], laidByText := true, laidKinds := [.data, .data, .data, .handle, .sentinel], laidTests := true, laidLooks := .later }
def FnExactRibTellUptoCardSaid : Prop := Claim7.holds Tryz.pinned (.plain (OpenSpec.upto fnExactRibTellSpec)) fnExactRibTellUptoCard

/-- THE SECOND FORM's CARD OF 'laws.FnExactRibDrop'. -/
def fnExactRibDropUptoCard : Claim7 := { stood := { row := fnExactRibDropUptoRow, standIns := [], harness := (true, "4271f063315020558684e00a59e086217155dce1601c0f9e7fbc7389768415ef"), looks := true }, kinds := [], alts := [], laidByText := true, laidKinds := [.data, .data, .data, .handle, .sentinel], laidTests := true, laidLooks := .later }
def FnExactRibDropUptoCardSaid : Prop := Claim7.holds Tryz.pinned (.plain (OpenSpec.upto fnExactRibDropSpec)) fnExactRibDropUptoCard
end Rows
end Go.Proofs.YtjeofgalgfopdaaGreatDoor
