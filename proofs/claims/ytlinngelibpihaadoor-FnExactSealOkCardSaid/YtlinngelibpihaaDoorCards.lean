/-
  DERIVED. GIVEN WITH THE SEED: THE CARDS: each row of YtlinngelibpihaaDoorRows.lean that lists a variable, with what it lists TIED to the program's text (the seventh form; the later family's looks); each row that meets fmt, with fmt's text TOLD by the authors' own Lean function (tested against real Go, not proved from fmt's source: count such statements apart). THE CARD IS WHAT COUNTS. Prove the row's statement (the work); the ties are given (YtlinngelibpihaaDoorTie.lean); close each card by the builder's one call (the guide's Derived/Test/ToyasCard.lean, 'card_holds'). Laid BY PROGRAM, IN A SANDBOX (cutbox-door.mjs). By AI agents, Wed Nov 11 2026. No macro, syntax, notation, axiom, sorry.
-/
import Derived.Test.YtlinngelibpihaaDoorRows
import GoSem.ClaimSeven
namespace Go.Proofs.YtlinngelibpihaaDoor
namespace Rows

/-- THE TIED CARD OF 'laws.FnExactSealHas'. -/
def fnExactSealHasCard : Claim7 := { stood := { row := fnExactSealHasRow, standIns := [], harness := (true, "bafed3564e7d872e98e27bd7cf91caa18230ebd6abbb72c8a69dae8eb30dfa5c"), looks := true }, kinds := [], alts := [], laidByText := true, laidKinds := [.data, .data, .data], laidTests := true, laidLooks := .later }
def FnExactSealHasCardSaid : Prop := Claim7.holds Tryd.pinned (.plain (OpenSpec.ofChange fnExactSealHasSpec)) fnExactSealHasCard

/-- THE TIED CARD OF 'laws.FnExactSealLacks'. -/
def fnExactSealLacksCard : Claim7 := { stood := { row := fnExactSealLacksRow, standIns := [], harness := (true, "bafed3564e7d872e98e27bd7cf91caa18230ebd6abbb72c8a69dae8eb30dfa5c"), looks := true }, kinds := [], alts := [], laidByText := true, laidKinds := [.data, .data, .data, .sentinel], laidTests := true, laidLooks := .later }
def FnExactSealLacksCardSaid : Prop := Claim7.holds Tryd.pinned (.plain (OpenSpec.ofChange fnExactSealLacksSpec)) fnExactSealLacksCard

/-- THE TIED CARD OF 'laws.FnExactSealOk'. -/
def fnExactSealOkCard : Claim7 := { stood := { row := fnExactSealOkRow, standIns := [], harness := (true, "bafed3564e7d872e98e27bd7cf91caa18230ebd6abbb72c8a69dae8eb30dfa5c"), looks := true }, kinds := [], alts := [], laidByText := true, laidKinds := [.data, .data, .data, .sentinel], laidTests := true, laidLooks := .later }
def FnExactSealOkCardSaid : Prop := Claim7.holds Tryd.pinned (.plain (OpenSpec.ofChange fnExactSealOkSpec)) fnExactSealOkCard

/-- THE TIED CARD OF 'laws.FnExactRangeRead'. -/
def fnExactRangeReadCard : Claim7 := { stood := { row := fnExactRangeReadRow, standIns := [], harness := (true, "bafed3564e7d872e98e27bd7cf91caa18230ebd6abbb72c8a69dae8eb30dfa5c"), looks := true }, kinds := [], alts := [], laidByText := true, laidKinds := [.data, .data, .data, .sentinel, .sentinel], laidTests := true, laidLooks := .later }
def FnExactRangeReadCardSaid : Prop := Claim7.holds Tryd.pinned (.plain (OpenSpec.ofChange fnExactRangeReadSpec)) fnExactRangeReadCard

/-- THE TIED CARD OF 'laws.FnExactPathRead'. -/
def fnExactPathReadCard : Claim7 := { stood := { row := fnExactPathReadRow, standIns := [], harness := (true, "bafed3564e7d872e98e27bd7cf91caa18230ebd6abbb72c8a69dae8eb30dfa5c"), looks := true }, kinds := [], alts := [], laidByText := true, laidKinds := [.data, .data, .data, .data, .sentinel, .sentinel, .sentinel, .pinned], laidTests := true, laidLooks := .later }
def FnExactPathReadCardSaid : Prop := Claim7.holds Tryd.pinned (.plain (OpenSpec.ofChange fnExactPathReadSpec)) fnExactPathReadCard

/-- THE SECOND FORM's CARD OF 'laws.FnExactSealHas'. -/
def fnExactSealHasUptoCard : Claim7 := { stood := { row := fnExactSealHasUptoRow, standIns := [], harness := (true, "bafed3564e7d872e98e27bd7cf91caa18230ebd6abbb72c8a69dae8eb30dfa5c"), looks := true }, kinds := [], alts := [], laidByText := true, laidKinds := [.data, .data, .data], laidTests := true, laidLooks := .later }
def FnExactSealHasUptoCardSaid : Prop := Claim7.holds Tryd.pinned (.plain (OpenSpec.upto fnExactSealHasSpec)) fnExactSealHasUptoCard

/-- THE SECOND FORM's CARD OF 'laws.FnExactSealLacks'. -/
def fnExactSealLacksUptoCard : Claim7 := { stood := { row := fnExactSealLacksUptoRow, standIns := [], harness := (true, "bafed3564e7d872e98e27bd7cf91caa18230ebd6abbb72c8a69dae8eb30dfa5c"), looks := true }, kinds := [], alts := [], laidByText := true, laidKinds := [.data, .data, .data, .sentinel], laidTests := true, laidLooks := .later }
def FnExactSealLacksUptoCardSaid : Prop := Claim7.holds Tryd.pinned (.plain (OpenSpec.upto fnExactSealLacksSpec)) fnExactSealLacksUptoCard

/-- THE SECOND FORM's CARD OF 'laws.FnExactSealOk'. -/
def fnExactSealOkUptoCard : Claim7 := { stood := { row := fnExactSealOkUptoRow, standIns := [], harness := (true, "bafed3564e7d872e98e27bd7cf91caa18230ebd6abbb72c8a69dae8eb30dfa5c"), looks := true }, kinds := [], alts := [], laidByText := true, laidKinds := [.data, .data, .data, .sentinel], laidTests := true, laidLooks := .later }
def FnExactSealOkUptoCardSaid : Prop := Claim7.holds Tryd.pinned (.plain (OpenSpec.upto fnExactSealOkSpec)) fnExactSealOkUptoCard

/-- THE SECOND FORM's CARD OF 'laws.FnExactRangeRead'. -/
def fnExactRangeReadUptoCard : Claim7 := { stood := { row := fnExactRangeReadUptoRow, standIns := [], harness := (true, "bafed3564e7d872e98e27bd7cf91caa18230ebd6abbb72c8a69dae8eb30dfa5c"), looks := true }, kinds := [], alts := [], laidByText := true, laidKinds := [.data, .data, .data, .sentinel, .sentinel], laidTests := true, laidLooks := .later }
def FnExactRangeReadUptoCardSaid : Prop := Claim7.holds Tryd.pinned (.plain (OpenSpec.upto fnExactRangeReadSpec)) fnExactRangeReadUptoCard

/-- THE SECOND FORM's CARD OF 'laws.FnExactPathRead'. -/
def fnExactPathReadUptoCard : Claim7 := { stood := { row := fnExactPathReadUptoRow, standIns := [], harness := (true, "bafed3564e7d872e98e27bd7cf91caa18230ebd6abbb72c8a69dae8eb30dfa5c"), looks := true }, kinds := [], alts := [], laidByText := true, laidKinds := [.data, .data, .data, .data, .sentinel, .sentinel, .sentinel, .pinned], laidTests := true, laidLooks := .later }
def FnExactPathReadUptoCardSaid : Prop := Claim7.holds Tryd.pinned (.plain (OpenSpec.upto fnExactPathReadSpec)) fnExactPathReadUptoCard
end Rows
end Go.Proofs.YtlinngelibpihaaDoor
