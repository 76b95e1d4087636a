/-
  DERIVED. GIVEN WITH THE SEED: THE CARDS: each row of YtgcmbmjpgaadcaaDoorRows.lean that lists a variable, with what it lists TIED to the program's text (the seventh form; the later family's looks); each row that meets fmt, with fmt's text TOLD by the authors' own Lean function (tested against real Go, not proved from fmt's source: count such statements apart). THE CARD IS WHAT COUNTS. Prove the row's statement (the work); the ties are given (YtgcmbmjpgaadcaaDoorTie.lean); close each card by the builder's one call (the guide's Derived/Test/ToyasCard.lean, 'card_holds'). Laid BY PROGRAM, IN A SANDBOX (cutbox-door.mjs). By AI agents, Wed Nov 11 2026. No macro, syntax, notation, axiom, sorry.
-/
import Derived.Test.YtgcmbmjpgaadcaaDoorRows
import GoSem.ClaimSeven
namespace Go.Proofs.YtgcmbmjpgaadcaaDoor
namespace Rows

/-- THE TIED CARD OF 'laws.FnExactPathOk'. -/
def fnExactPathOkCard : Claim7 := { stood := { row := fnExactPathOkRow, standIns := [], harness := (true, "75f75de93246fe15e53f735e9c7e63d274ce7f72a08c53cc3ca1ca2a7279e9ef"), looks := true }, kinds := [], alts := [], laidByText := true, laidKinds := [.data, .data, .data, .sentinel], laidTests := true, laidLooks := .later }
def FnExactPathOkCardSaid : Prop := Claim7.holds Tryd.pinned (.plain (OpenSpec.ofChange fnExactPathOkSpec)) fnExactPathOkCard

/-- THE TIED CARD OF 'laws.FnExactPathHas'. -/
def fnExactPathHasCard : Claim7 := { stood := { row := fnExactPathHasRow, standIns := [], harness := (true, "75f75de93246fe15e53f735e9c7e63d274ce7f72a08c53cc3ca1ca2a7279e9ef"), looks := true }, kinds := [], alts := [], laidByText := true, laidKinds := [.data, .data, .data, .sentinel], laidTests := true, laidLooks := .later }
def FnExactPathHasCardSaid : Prop := Claim7.holds Tryd.pinned (.plain (OpenSpec.ofChange fnExactPathHasSpec)) fnExactPathHasCard

/-- THE TIED CARD OF 'laws.FnExactPathAdd'. -/
def fnExactPathAddCard : Claim7 := { stood := { row := fnExactPathAddRow, standIns := [], harness := (true, "75f75de93246fe15e53f735e9c7e63d274ce7f72a08c53cc3ca1ca2a7279e9ef"), looks := true }, kinds := [], alts := [], laidByText := true, laidKinds := [.data, .data, .data, .sentinel], laidTests := true, laidLooks := .later }
def FnExactPathAddCardSaid : Prop := Claim7.holds Tryd.pinned (.plain (OpenSpec.ofChange fnExactPathAddSpec)) fnExactPathAddCard

/-- THE TIED CARD OF 'laws.FnExactPathCmp'. -/
def fnExactPathCmpCard : Claim7 := { stood := { row := fnExactPathCmpRow, standIns := [], harness := (true, "75f75de93246fe15e53f735e9c7e63d274ce7f72a08c53cc3ca1ca2a7279e9ef"), looks := true }, kinds := [], alts := [], laidByText := true, laidKinds := [.data, .data, .data, .sentinel], laidTests := true, laidLooks := .later }
def FnExactPathCmpCardSaid : Prop := Claim7.holds Tryd.pinned (.plain (OpenSpec.ofChange fnExactPathCmpSpec)) fnExactPathCmpCard

/-- THE TIED CARD OF 'laws.FnExactRouteOk'. -/
def fnExactRouteOkCard : Claim7 := { stood := { row := fnExactRouteOkRow, standIns := [], harness := (true, "75f75de93246fe15e53f735e9c7e63d274ce7f72a08c53cc3ca1ca2a7279e9ef"), looks := true }, kinds := [], alts := [], laidByText := true, laidKinds := [.data, .data, .data, .sentinel], laidTests := true, laidLooks := .later }
def FnExactRouteOkCardSaid : Prop := Claim7.holds Tryd.pinned (.plain (OpenSpec.ofChange fnExactRouteOkSpec)) fnExactRouteOkCard

/-- THE TIED CARD OF 'laws.FnExactRouteClear'. -/
def fnExactRouteClearCard : Claim7 := { stood := { row := fnExactRouteClearRow, standIns := [], harness := (true, "75f75de93246fe15e53f735e9c7e63d274ce7f72a08c53cc3ca1ca2a7279e9ef"), looks := true }, kinds := [], alts := [], laidByText := true, laidKinds := [.data, .data, .data, .sentinel], laidTests := true, laidLooks := .later }
def FnExactRouteClearCardSaid : Prop := Claim7.holds Tryd.pinned (.plain (OpenSpec.ofChange fnExactRouteClearSpec)) fnExactRouteClearCard

/-- THE TIED CARD OF 'laws.FnExactRouteMark'. -/
def fnExactRouteMarkCard : Claim7 := { stood := { row := fnExactRouteMarkRow, standIns := [], harness := (true, "75f75de93246fe15e53f735e9c7e63d274ce7f72a08c53cc3ca1ca2a7279e9ef"), looks := true }, kinds := [], alts := [], laidByText := true, laidKinds := [.data, .data, .data, .sentinel], laidTests := true, laidLooks := .later }
def FnExactRouteMarkCardSaid : Prop := Claim7.holds Tryd.pinned (.plain (OpenSpec.ofChange fnExactRouteMarkSpec)) fnExactRouteMarkCard

/-- THE TIED CARD OF 'laws.FnExactRouteCmp'. -/
def fnExactRouteCmpCard : Claim7 := { stood := { row := fnExactRouteCmpRow, standIns := [], harness := (true, "75f75de93246fe15e53f735e9c7e63d274ce7f72a08c53cc3ca1ca2a7279e9ef"), looks := true }, kinds := [], alts := [], laidByText := true, laidKinds := [.data, .data, .data, .sentinel], laidTests := true, laidLooks := .later }
def FnExactRouteCmpCardSaid : Prop := Claim7.holds Tryd.pinned (.plain (OpenSpec.ofChange fnExactRouteCmpSpec)) fnExactRouteCmpCard

/-- THE TIED CARD OF 'laws.FnExactRoutesOk'. -/
def fnExactRoutesOkCard : Claim7 := { stood := { row := fnExactRoutesOkRow, standIns := [], harness := (true, "75f75de93246fe15e53f735e9c7e63d274ce7f72a08c53cc3ca1ca2a7279e9ef"), looks := true }, kinds := [], alts := [], laidByText := true, laidKinds := [.data, .data, .data, .sentinel], laidTests := true, laidLooks := .later }
def FnExactRoutesOkCardSaid : Prop := Claim7.holds Tryd.pinned (.plain (OpenSpec.ofChange fnExactRoutesOkSpec)) fnExactRoutesOkCard

/-- THE SECOND FORM's CARD OF 'laws.FnExactPathOk'. -/
def fnExactPathOkUptoCard : Claim7 := { stood := { row := fnExactPathOkUptoRow, standIns := [], harness := (true, "75f75de93246fe15e53f735e9c7e63d274ce7f72a08c53cc3ca1ca2a7279e9ef"), looks := true }, kinds := [], alts := [], laidByText := true, laidKinds := [.data, .data, .data, .sentinel], laidTests := true, laidLooks := .later }
def FnExactPathOkUptoCardSaid : Prop := Claim7.holds Tryd.pinned (.plain (OpenSpec.upto fnExactPathOkSpec)) fnExactPathOkUptoCard

/-- THE SECOND FORM's CARD OF 'laws.FnExactPathHas'. -/
def fnExactPathHasUptoCard : Claim7 := { stood := { row := fnExactPathHasUptoRow, standIns := [], harness := (true, "75f75de93246fe15e53f735e9c7e63d274ce7f72a08c53cc3ca1ca2a7279e9ef"), looks := true }, kinds := [], alts := [], laidByText := true, laidKinds := [.data, .data, .data, .sentinel], laidTests := true, laidLooks := .later }
def FnExactPathHasUptoCardSaid : Prop := Claim7.holds Tryd.pinned (.plain (OpenSpec.upto fnExactPathHasSpec)) fnExactPathHasUptoCard

/-- THE SECOND FORM's CARD OF 'laws.FnExactPathAdd'. -/
def fnExactPathAddUptoCard : Claim7 := { stood := { row := fnExactPathAddUptoRow, standIns := [], harness := (true, "75f75de93246fe15e53f735e9c7e63d274ce7f72a08c53cc3ca1ca2a7279e9ef"), looks := true }, kinds := [], alts := [], laidByText := true, laidKinds := [.data, .data, .data, .sentinel], laidTests := true, laidLooks := .later }
def FnExactPathAddUptoCardSaid : Prop := Claim7.holds Tryd.pinned (.plain (OpenSpec.upto fnExactPathAddSpec)) fnExactPathAddUptoCard

/-- THE SECOND FORM's CARD OF 'laws.FnExactPathCmp'. -/
def fnExactPathCmpUptoCard : Claim7 := { stood := { row := fnExactPathCmpUptoRow, standIns := [], harness := (true, "75f75de93246fe15e53f735e9c7e63d274ce7f72a08c53cc3ca1ca2a7279e9ef"), looks := true }, kinds := [], alts := [], laidByText := true, laidKinds := [.data, .data, .data, .sentinel], laidTests := true, laidLooks := .later }
def FnExactPathCmpUptoCardSaid : Prop := Claim7.holds Tryd.pinned (.plain (OpenSpec.upto fnExactPathCmpSpec)) fnExactPathCmpUptoCard

/-- THE SECOND FORM's CARD OF 'laws.FnExactRouteOk'. -/
def fnExactRouteOkUptoCard : Claim7 := { stood := { row := fnExactRouteOkUptoRow, standIns := [], harness := (true, "75f75de93246fe15e53f735e9c7e63d274ce7f72a08c53cc3ca1ca2a7279e9ef"), looks := true }, kinds := [], alts := [], laidByText := true, laidKinds := [.data, .data, .data, .sentinel], laidTests := true, laidLooks := .later }
def FnExactRouteOkUptoCardSaid : Prop := Claim7.holds Tryd.pinned (.plain (OpenSpec.upto fnExactRouteOkSpec)) fnExactRouteOkUptoCard

/-- THE SECOND FORM's CARD OF 'laws.FnExactRouteClear'. -/
def fnExactRouteClearUptoCard : Claim7 := { stood := { row := fnExactRouteClearUptoRow, standIns := [], harness := (true, "75f75de93246fe15e53f735e9c7e63d274ce7f72a08c53cc3ca1ca2a7279e9ef"), looks := true }, kinds := [], alts := [], laidByText := true, laidKinds := [.data, .data, .data, .sentinel], laidTests := true, laidLooks := .later }
def FnExactRouteClearUptoCardSaid : Prop := Claim7.holds Tryd.pinned (.plain (OpenSpec.upto fnExactRouteClearSpec)) fnExactRouteClearUptoCard

/-- THE SECOND FORM's CARD OF 'laws.FnExactRouteMark'. -/
def fnExactRouteMarkUptoCard : Claim7 := { stood := { row := fnExactRouteMarkUptoRow, standIns := [], harness := (true, "75f75de93246fe15e53f735e9c7e63d274ce7f72a08c53cc3ca1ca2a7279e9ef"), looks := true }, kinds := [], alts := [], laidByText := true, laidKinds := [.data, .data, .data, .sentinel], laidTests := true, laidLooks := .later }
def FnExactRouteMarkUptoCardSaid : Prop := Claim7.holds Tryd.pinned (.plain (OpenSpec.upto fnExactRouteMarkSpec)) fnExactRouteMarkUptoCard

/-- THE SECOND FORM's CARD OF 'laws.FnExactRouteCmp'. -/
def fnExactRouteCmpUptoCard : Claim7 := { stood := { row := fnExactRouteCmpUptoRow, standIns := [], harness := (true, "75f75de93246fe15e53f735e9c7e63d274ce7f72a08c53cc3ca1ca2a7279e9ef"), looks := true }, kinds := [], alts := [], laidByText := true, laidKinds := [.data, .data, .data, .sentinel], laidTests := true, laidLooks := .later }
def FnExactRouteCmpUptoCardSaid : Prop := Claim7.holds Tryd.pinned (.plain (OpenSpec.upto fnExactRouteCmpSpec)) fnExactRouteCmpUptoCard

/-- THE SECOND FORM's CARD OF 'laws.FnExactRoutesOk'. -/
def fnExactRoutesOkUptoCard : Claim7 := { stood := { row := fnExactRoutesOkUptoRow, standIns := [], harness := (true, "75f75de93246fe15e53f735e9c7e63d274ce7f72a08c53cc3ca1ca2a7279e9ef"), looks := true }, kinds := [], alts := [], laidByText := true, laidKinds := [.data, .data, .data, .sentinel], laidTests := true, laidLooks := .later }
def FnExactRoutesOkUptoCardSaid : Prop := Claim7.holds Tryd.pinned (.plain (OpenSpec.upto fnExactRoutesOkSpec)) fnExactRoutesOkUptoCard
end Rows
end Go.Proofs.YtgcmbmjpgaadcaaDoor
