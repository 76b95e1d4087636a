/-
  DERIVED. GIVEN WITH THE SEED: THE CARDS: each row of YtfhagokhekodnaaDoorRows.lean that lists a variable, with what it lists TIED to the program's text (the seventh form; the later family's looks); each row that meets fmt, with fmt's text TOLD by the authors' own Lean function (tested against real Go, not proved from fmt's source: count such statements apart). THE CARD IS WHAT COUNTS. Prove the row's statement (the work); the ties are given (YtfhagokhekodnaaDoorTie.lean); close each card by the builder's one call (the guide's Derived/Test/ToyasCard.lean, 'card_holds'). Laid BY PROGRAM, IN A SANDBOX (cutbox-door.mjs). By AI agents, Wed Nov 11 2026. No macro, syntax, notation, axiom, sorry.
-/
import Derived.Test.YtfhagokhekodnaaDoorRows
import GoSem.ClaimSeven
namespace Go.Proofs.YtfhagokhekodnaaDoor
namespace Rows

/-- THE TIED CARD OF 'laws.FnExactPathAdd'. -/
def fnExactPathAddCard : Claim7 := { stood := { row := fnExactPathAddRow, standIns := [], harness := (true, "c9fb0a26d5f0da2e16fa363967328a46a9355156f9667fe7c5f75bdc419a6297"), looks := true }, kinds := [], alts := [], laidByText := true, laidKinds := [.data, .data, .data, .sentinel], laidTests := true, laidLooks := .later }
def FnExactPathAddCardSaid : Prop := Claim7.holds Tryd.pinned (.plain (OpenSpec.ofChange fnExactPathAddSpec)) fnExactPathAddCard

/-- THE TIED CARD OF 'laws.FnExactRouteClear'. -/
def fnExactRouteClearCard : Claim7 := { stood := { row := fnExactRouteClearRow, standIns := [], harness := (true, "c9fb0a26d5f0da2e16fa363967328a46a9355156f9667fe7c5f75bdc419a6297"), looks := true }, kinds := [], alts := [], laidByText := true, laidKinds := [.data, .data, .data, .sentinel], laidTests := true, laidLooks := .later }
def FnExactRouteClearCardSaid : Prop := Claim7.holds Tryd.pinned (.plain (OpenSpec.ofChange fnExactRouteClearSpec)) fnExactRouteClearCard

/-- THE TIED CARD OF 'laws.FnExactClauseFits'. -/
def fnExactClauseFitsCard : Claim7 := { stood := { row := fnExactClauseFitsRow, standIns := [], harness := (true, "c9fb0a26d5f0da2e16fa363967328a46a9355156f9667fe7c5f75bdc419a6297"), looks := true }, kinds := [], alts := [], laidByText := true, laidKinds := [.data, .data, .data, .sentinel], laidTests := true, laidLooks := .later }
def FnExactClauseFitsCardSaid : Prop := Claim7.holds Tryd.pinned (.plain (OpenSpec.ofChange fnExactClauseFitsSpec)) fnExactClauseFitsCard

/-- THE TIED CARD OF 'laws.FnExactRibOk'. -/
def fnExactRibOkCard : Claim7 := { stood := { row := fnExactRibOkRow, standIns := [], harness := (true, "c9fb0a26d5f0da2e16fa363967328a46a9355156f9667fe7c5f75bdc419a6297"), looks := true }, kinds := [], alts := [], laidByText := true, laidKinds := [.data, .data, .data, .sentinel], laidTests := true, laidLooks := .later }
def FnExactRibOkCardSaid : Prop := Claim7.holds Tryd.pinned (.plain (OpenSpec.ofChange fnExactRibOkSpec)) fnExactRibOkCard

/-- THE TIED CARD OF 'laws.FnExactRouteBest'. -/
def fnExactRouteBestCard : Claim7 := { stood := { row := fnExactRouteBestRow, standIns := [], harness := (true, "c9fb0a26d5f0da2e16fa363967328a46a9355156f9667fe7c5f75bdc419a6297"), looks := true }, kinds := [], alts := [], laidByText := true, laidKinds := [.data, .data, .data, .sentinel], laidTests := true, laidLooks := .later }
def FnExactRouteBestCardSaid : Prop := Claim7.holds Tryd.pinned (.plain (OpenSpec.ofChange fnExactRouteBestSpec)) fnExactRouteBestCard

/-- THE TIED CARD OF 'laws.FnExactRouteMark'. -/
def fnExactRouteMarkCard : Claim7 := { stood := { row := fnExactRouteMarkRow, standIns := [], harness := (true, "c9fb0a26d5f0da2e16fa363967328a46a9355156f9667fe7c5f75bdc419a6297"), looks := true }, kinds := [], alts := [], laidByText := true, laidKinds := [.data, .data, .data, .sentinel], laidTests := true, laidLooks := .later }
def FnExactRouteMarkCardSaid : Prop := Claim7.holds Tryd.pinned (.plain (OpenSpec.ofChange fnExactRouteMarkSpec)) fnExactRouteMarkCard

/-- THE TIED CARD OF 'laws.FnExactRibFind'. -/
def fnExactRibFindCard : Claim7 := { stood := { row := fnExactRibFindRow, standIns := [], harness := (true, "c9fb0a26d5f0da2e16fa363967328a46a9355156f9667fe7c5f75bdc419a6297"), looks := true }, kinds := [], alts := [], laidByText := true, laidKinds := [.data, .data, .data, .sentinel], laidTests := true, laidLooks := .later }
def FnExactRibFindCardSaid : Prop := Claim7.holds Tryd.pinned (.plain (OpenSpec.ofChange fnExactRibFindSpec)) fnExactRibFindCard

/-- THE SECOND FORM's CARD OF 'laws.FnExactPathAdd'. -/
def fnExactPathAddUptoCard : Claim7 := { stood := { row := fnExactPathAddUptoRow, standIns := [], harness := (true, "c9fb0a26d5f0da2e16fa363967328a46a9355156f9667fe7c5f75bdc419a6297"), looks := true }, kinds := [], alts := [], laidByText := true, laidKinds := [.data, .data, .data, .sentinel], laidTests := true, laidLooks := .later }
def FnExactPathAddUptoCardSaid : Prop := Claim7.holds Tryd.pinned (.plain (OpenSpec.upto fnExactPathAddSpec)) fnExactPathAddUptoCard

/-- THE SECOND FORM's CARD OF 'laws.FnExactRouteClear'. -/
def fnExactRouteClearUptoCard : Claim7 := { stood := { row := fnExactRouteClearUptoRow, standIns := [], harness := (true, "c9fb0a26d5f0da2e16fa363967328a46a9355156f9667fe7c5f75bdc419a6297"), looks := true }, kinds := [], alts := [], laidByText := true, laidKinds := [.data, .data, .data, .sentinel], laidTests := true, laidLooks := .later }
def FnExactRouteClearUptoCardSaid : Prop := Claim7.holds Tryd.pinned (.plain (OpenSpec.upto fnExactRouteClearSpec)) fnExactRouteClearUptoCard

/-- THE SECOND FORM's CARD OF 'laws.FnExactClauseFits'. -/
def fnExactClauseFitsUptoCard : Claim7 := { stood := { row := fnExactClauseFitsUptoRow, standIns := [], harness := (true, "c9fb0a26d5f0da2e16fa363967328a46a9355156f9667fe7c5f75bdc419a6297"), looks := true }, kinds := [], alts := [], laidByText := true, laidKinds := [.data, .data, .data, .sentinel], laidTests := true, laidLooks := .later }
def FnExactClauseFitsUptoCardSaid : Prop := Claim7.holds Tryd.pinned (.plain (OpenSpec.upto fnExactClauseFitsSpec)) fnExactClauseFitsUptoCard

/-- THE SECOND FORM's CARD OF 'laws.FnExactRibOk'. -/
def fnExactRibOkUptoCard : Claim7 := { stood := { row := fnExactRibOkUptoRow, standIns := [], harness := (true, "c9fb0a26d5f0da2e16fa363967328a46a9355156f9667fe7c5f75bdc419a6297"), looks := true }, kinds := [], alts := [], laidByText := true, laidKinds := [.data, .data, .data, .sentinel], laidTests := true, laidLooks := .later }
def FnExactRibOkUptoCardSaid : Prop := Claim7.holds Tryd.pinned (.plain (OpenSpec.upto fnExactRibOkSpec)) fnExactRibOkUptoCard

/-- THE SECOND FORM's CARD OF 'laws.FnExactRouteBest'. -/
def fnExactRouteBestUptoCard : Claim7 := { stood := { row := fnExactRouteBestUptoRow, standIns := [], harness := (true, "c9fb0a26d5f0da2e16fa363967328a46a9355156f9667fe7c5f75bdc419a6297"), looks := true }, kinds := [], alts := [], laidByText := true, laidKinds := [.data, .data, .data, .sentinel], laidTests := true, laidLooks := .later }
def FnExactRouteBestUptoCardSaid : Prop := Claim7.holds Tryd.pinned (.plain (OpenSpec.upto fnExactRouteBestSpec)) fnExactRouteBestUptoCard

/-- THE SECOND FORM's CARD OF 'laws.FnExactRouteMark'. -/
def fnExactRouteMarkUptoCard : Claim7 := { stood := { row := fnExactRouteMarkUptoRow, standIns := [], harness := (true, "c9fb0a26d5f0da2e16fa363967328a46a9355156f9667fe7c5f75bdc419a6297"), looks := true }, kinds := [], alts := [], laidByText := true, laidKinds := [.data, .data, .data, .sentinel], laidTests := true, laidLooks := .later }
def FnExactRouteMarkUptoCardSaid : Prop := Claim7.holds Tryd.pinned (.plain (OpenSpec.upto fnExactRouteMarkSpec)) fnExactRouteMarkUptoCard

/-- THE SECOND FORM's CARD OF 'laws.FnExactRibFind'. -/
def fnExactRibFindUptoCard : Claim7 := { stood := { row := fnExactRibFindUptoRow, standIns := [], harness := (true, "c9fb0a26d5f0da2e16fa363967328a46a9355156f9667fe7c5f75bdc419a6297"), looks := true }, kinds := [], alts := [], laidByText := true, laidKinds := [.data, .data, .data, .sentinel], laidTests := true, laidLooks := .later }
def FnExactRibFindUptoCardSaid : Prop := Claim7.holds Tryd.pinned (.plain (OpenSpec.upto fnExactRibFindSpec)) fnExactRibFindUptoCard
end Rows
end Go.Proofs.YtfhagokhekodnaaDoor
