/-
  DERIVED. GIVEN WITH THE SEED: THE CARDS: each row of YtjeofgalgfopdaaDoorRows.lean that lists a variable, with what it lists TIED to the program's text (the seventh form; the later family's looks); each row that meets fmt, with fmt's text TOLD by the authors' own Lean function (tested against real Go, not proved from fmt's source: count such statements apart). THE CARD IS WHAT COUNTS. Prove the row's statement (the work); the ties are given (YtjeofgalgfopdaaDoorTie.lean); close each card by the builder's one call (the guide's Derived/Test/ToyasCard.lean, 'card_holds'). Laid BY PROGRAM, IN A SANDBOX (cutbox-door.mjs). By AI agents, Wed Nov 11 2026. No macro, syntax, notation, axiom, sorry.
-/
import Derived.Test.YtjeofgalgfopdaaDoorRows
import GoSem.ClaimSeven
namespace Go.Proofs.YtjeofgalgfopdaaDoor
namespace Rows

/-- THE TIED CARD OF 'laws.FnExactPickTable'. -/
def fnExactPickTableCard : Claim7 := { stood := { row := fnExactPickTableRow, standIns := [], harness := (true, "4ae2aad2ee619efd80b9343511fdefdb75f4a4010e1c7527069c4f141ac4c89f"), looks := true }, kinds := [], alts := [], laidByText := true, laidKinds := [.data, .data, .data, .sentinel], laidTests := true, laidLooks := .later }
def FnExactPickTableCardSaid : Prop := Claim7.holds Tryd.pinned (.plain (OpenSpec.ofChange fnExactPickTableSpec)) fnExactPickTableCard

/-- THE TIED CARD OF 'laws.FnExactSealMake'. -/
def fnExactSealMakeCard : Claim7 := { stood := { row := fnExactSealMakeRow, standIns := [], harness := (true, "4ae2aad2ee619efd80b9343511fdefdb75f4a4010e1c7527069c4f141ac4c89f"), looks := true }, kinds := [], alts := [], laidByText := true, laidKinds := [.data, .data, .data, .sentinel], laidTests := true, laidLooks := .later }
def FnExactSealMakeCardSaid : Prop := Claim7.holds Tryd.pinned (.plain (OpenSpec.ofChange fnExactSealMakeSpec)) fnExactSealMakeCard

/-- THE TIED CARD OF 'laws.FnExactRangeText'. -/
def fnExactRangeTextCard : Claim7 := { stood := { row := fnExactRangeTextRow, standIns := [], harness := (true, "4ae2aad2ee619efd80b9343511fdefdb75f4a4010e1c7527069c4f141ac4c89f"), looks := true }, kinds := [], alts := [], laidByText := true, laidKinds := [.data, .data, .data], laidTests := true, laidLooks := .later }
def FnExactRangeTextCardSaid : Prop := Claim7.holds Tryd.pinned (.plain (OpenSpec.ofChange fnExactRangeTextSpec)) fnExactRangeTextCard

/-- THE TIED CARD OF 'laws.FnExactPathText'. -/
def fnExactPathTextCard : Claim7 := { stood := { row := fnExactPathTextRow, standIns := [], harness := (true, "4ae2aad2ee619efd80b9343511fdefdb75f4a4010e1c7527069c4f141ac4c89f"), looks := true }, kinds := [], alts := [], laidByText := true, laidKinds := [.data, .data, .data, .sentinel], laidTests := true, laidLooks := .later }
def FnExactPathTextCardSaid : Prop := Claim7.holds Tryd.pinned (.plain (OpenSpec.ofChange fnExactPathTextSpec)) fnExactPathTextCard

/-- THE TIED CARD OF 'laws.FnExactRouteText'. -/
def fnExactRouteTextCard : Claim7 := { stood := { row := fnExactRouteTextRow, standIns := [], harness := (true, "4ae2aad2ee619efd80b9343511fdefdb75f4a4010e1c7527069c4f141ac4c89f"), looks := true }, kinds := [], alts := [], laidByText := true, laidKinds := [.data, .data, .data, .sentinel], laidTests := true, laidLooks := .later }
def FnExactRouteTextCardSaid : Prop := Claim7.holds Tryd.pinned (.plain (OpenSpec.ofChange fnExactRouteTextSpec)) fnExactRouteTextCard

/-- THE TIED CARD OF 'laws.FnExactDeltaOf'. -/
def fnExactDeltaOfCard : Claim7 := { stood := { row := fnExactDeltaOfRow, standIns := [], harness := (true, "4ae2aad2ee619efd80b9343511fdefdb75f4a4010e1c7527069c4f141ac4c89f"), looks := true }, kinds := [], alts := [], laidByText := true, laidKinds := [.data, .data, .data, .sentinel], laidTests := true, laidLooks := .later }
def FnExactDeltaOfCardSaid : Prop := Claim7.holds Tryd.pinned (.plain (OpenSpec.ofChange fnExactDeltaOfSpec)) fnExactDeltaOfCard

/-- THE SECOND FORM's CARD OF 'laws.FnExactPickTable'. -/
def fnExactPickTableUptoCard : Claim7 := { stood := { row := fnExactPickTableUptoRow, standIns := [], harness := (true, "4ae2aad2ee619efd80b9343511fdefdb75f4a4010e1c7527069c4f141ac4c89f"), looks := true }, kinds := [], alts := [], laidByText := true, laidKinds := [.data, .data, .data, .sentinel], laidTests := true, laidLooks := .later }
def FnExactPickTableUptoCardSaid : Prop := Claim7.holds Tryd.pinned (.plain (OpenSpec.upto fnExactPickTableSpec)) fnExactPickTableUptoCard

/-- THE SECOND FORM's CARD OF 'laws.FnExactSealMake'. -/
def fnExactSealMakeUptoCard : Claim7 := { stood := { row := fnExactSealMakeUptoRow, standIns := [], harness := (true, "4ae2aad2ee619efd80b9343511fdefdb75f4a4010e1c7527069c4f141ac4c89f"), looks := true }, kinds := [], alts := [], laidByText := true, laidKinds := [.data, .data, .data, .sentinel], laidTests := true, laidLooks := .later }
def FnExactSealMakeUptoCardSaid : Prop := Claim7.holds Tryd.pinned (.plain (OpenSpec.upto fnExactSealMakeSpec)) fnExactSealMakeUptoCard

/-- THE SECOND FORM's CARD OF 'laws.FnExactRangeText'. -/
def fnExactRangeTextUptoCard : Claim7 := { stood := { row := fnExactRangeTextUptoRow, standIns := [], harness := (true, "4ae2aad2ee619efd80b9343511fdefdb75f4a4010e1c7527069c4f141ac4c89f"), looks := true }, kinds := [], alts := [], laidByText := true, laidKinds := [.data, .data, .data], laidTests := true, laidLooks := .later }
def FnExactRangeTextUptoCardSaid : Prop := Claim7.holds Tryd.pinned (.plain (OpenSpec.upto fnExactRangeTextSpec)) fnExactRangeTextUptoCard

/-- THE SECOND FORM's CARD OF 'laws.FnExactPathText'. -/
def fnExactPathTextUptoCard : Claim7 := { stood := { row := fnExactPathTextUptoRow, standIns := [], harness := (true, "4ae2aad2ee619efd80b9343511fdefdb75f4a4010e1c7527069c4f141ac4c89f"), looks := true }, kinds := [], alts := [], laidByText := true, laidKinds := [.data, .data, .data, .sentinel], laidTests := true, laidLooks := .later }
def FnExactPathTextUptoCardSaid : Prop := Claim7.holds Tryd.pinned (.plain (OpenSpec.upto fnExactPathTextSpec)) fnExactPathTextUptoCard

/-- THE SECOND FORM's CARD OF 'laws.FnExactRouteText'. -/
def fnExactRouteTextUptoCard : Claim7 := { stood := { row := fnExactRouteTextUptoRow, standIns := [], harness := (true, "4ae2aad2ee619efd80b9343511fdefdb75f4a4010e1c7527069c4f141ac4c89f"), looks := true }, kinds := [], alts := [], laidByText := true, laidKinds := [.data, .data, .data, .sentinel], laidTests := true, laidLooks := .later }
def FnExactRouteTextUptoCardSaid : Prop := Claim7.holds Tryd.pinned (.plain (OpenSpec.upto fnExactRouteTextSpec)) fnExactRouteTextUptoCard

/-- THE SECOND FORM's CARD OF 'laws.FnExactDeltaOf'. -/
def fnExactDeltaOfUptoCard : Claim7 := { stood := { row := fnExactDeltaOfUptoRow, standIns := [], harness := (true, "4ae2aad2ee619efd80b9343511fdefdb75f4a4010e1c7527069c4f141ac4c89f"), looks := true }, kinds := [], alts := [], laidByText := true, laidKinds := [.data, .data, .data, .sentinel], laidTests := true, laidLooks := .later }
def FnExactDeltaOfUptoCardSaid : Prop := Claim7.holds Tryd.pinned (.plain (OpenSpec.upto fnExactDeltaOfSpec)) fnExactDeltaOfUptoCard
end Rows
end Go.Proofs.YtjeofgalgfopdaaDoor
