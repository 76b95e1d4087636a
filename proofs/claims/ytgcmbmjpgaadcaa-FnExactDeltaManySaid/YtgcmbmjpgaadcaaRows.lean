/-
  No cell of these rows narrows 'for every input' (looked for: loops, veiled, ifaces, maps, wideKeys, modest, calm, conditions, laid).
  DERIVED. THE GIVEN ROWS OF THIS SEAT. 3 by the template 'for every input the law returns true; each argument reads behind the call as it read before'; 0 by the template 'total and deterministic' (their statements: YtgcmbmjpgaadcaaTotals.lean).
  GIVEN WITH THE SEED: the statements are not yours to turn. If you find one false, say at which input.
  Laid BY PROGRAM, IN A SANDBOX (cutbox-rows.mjs): the forced cells as the released guide's own fill.sh prints them over the translation de635f7147b903a2… (all of the seat's roots in one cut). By AI agents, Wed Nov 11 2026. No macro, syntax, notation, axiom, sorry.
-/
import Derived.Test.YtgcmbmjpgaadcaaChecked
import GoSem.Claim
import GoSem.ClaimJoined
import GoSem.ClaimMapViews
import Derived.JoinedTies
import Derived.KernelRfl
namespace Go.Proofs.Ytgcmbmjpgaadcaa
/- THE CELL 'sum', in the pinned program and in every row, IS THE sha256 OF THE DUMP (.gsa) THAT YtgcmbmjpgaadcaaProg.lean LOADS. Nothing in Lean hashes anything: it is a label: what it is worth is what the hold of that sum in a sandbox is worth. -/
noncomputable def Try.pinned : Pinned := { name := "ytgcmbmjpgaadcaa", sum := "de635f7147b903a2574118422944c8f77b772026ca841e18c9af91afe68eb89d", checked := Try.checked }
namespace Rows
def none {H : Type} : Left H := { results := [], args := [] }

/-- 'laws.FnExactDeltaMany': WHATEVER THE INPUT: true; the input reads as it did. -/
def fnExactDeltaManySpec : ChangeSpec := { name := "fnExactDeltaMany", fn := fun _ => fun
  | [d] => { results := [.lit (.bool true)], args := [d] }
  | _ => none }
def fnExactDeltaManyRow : OpenClaim := { program := "ytgcmbmjpgaadcaa", sum := "de635f7147b903a2574118422944c8f77b772026ca841e18c9af91afe68eb89d", func := "loop.example/wayboard/laws.FnExactDeltaMany", spec := "fnExactDeltaMany", apart := false }
def FnExactDeltaManySaid : Prop := fnExactDeltaManyRow.holds Try.pinned (OpenSpec.ofChange fnExactDeltaManySpec)

/-- ITS FALSE NEIGHBOUR: 'it returns false'. Refute it at one input. -/
def fnExactDeltaManyWrong : ChangeSpec := { name := "fnExactDeltaMany", fn := fun _ => fun
  | [d] => { results := [.lit (.bool false)], args := [d] }
  | _ => none }
def FnExactDeltaManyWrongFalsely : Prop := fnExactDeltaManyRow.holds Try.pinned (OpenSpec.ofChange fnExactDeltaManyWrong)

/-- 'laws.FnExactPolicyOk': WHATEVER THE INPUT: true; the input reads as it did. -/
def fnExactPolicyOkSpec : ChangeSpec := { name := "fnExactPolicyOk", fn := fun _ => fun
  | [d] => { results := [.lit (.bool true)], args := [d] }
  | _ => none }
def fnExactPolicyOkRow : OpenClaim := { program := "ytgcmbmjpgaadcaa", sum := "de635f7147b903a2574118422944c8f77b772026ca841e18c9af91afe68eb89d", func := "loop.example/wayboard/laws.FnExactPolicyOk", spec := "fnExactPolicyOk", unfollowed := true, recurses := true, apart := false }
def FnExactPolicyOkSaid : Prop := fnExactPolicyOkRow.holds Try.pinned (OpenSpec.ofChange fnExactPolicyOkSpec)

/-- ITS FALSE NEIGHBOUR: 'it returns false'. Refute it at one input. -/
def fnExactPolicyOkWrong : ChangeSpec := { name := "fnExactPolicyOk", fn := fun _ => fun
  | [d] => { results := [.lit (.bool false)], args := [d] }
  | _ => none }
def FnExactPolicyOkWrongFalsely : Prop := fnExactPolicyOkRow.holds Try.pinned (OpenSpec.ofChange fnExactPolicyOkWrong)

/-- 'laws.FnExactClauseOk': WHATEVER THE INPUT: true; the input reads as it did. -/
def fnExactClauseOkSpec : ChangeSpec := { name := "fnExactClauseOk", fn := fun _ => fun
  | [d] => { results := [.lit (.bool true)], args := [d] }
  | _ => none }
def fnExactClauseOkRow : OpenClaim := { program := "ytgcmbmjpgaadcaa", sum := "de635f7147b903a2574118422944c8f77b772026ca841e18c9af91afe68eb89d", func := "loop.example/wayboard/laws.FnExactClauseOk", spec := "fnExactClauseOk", apart := false }
def FnExactClauseOkSaid : Prop := fnExactClauseOkRow.holds Try.pinned (OpenSpec.ofChange fnExactClauseOkSpec)

/-- ITS FALSE NEIGHBOUR: 'it returns false'. Refute it at one input. -/
def fnExactClauseOkWrong : ChangeSpec := { name := "fnExactClauseOk", fn := fun _ => fun
  | [d] => { results := [.lit (.bool false)], args := [d] }
  | _ => none }
def FnExactClauseOkWrongFalsely : Prop := fnExactClauseOkRow.holds Try.pinned (OpenSpec.ofChange fnExactClauseOkWrong)

/- THE SECOND FORM. 'bulk': how many values and letters a reading holds, each counted each time it is reached (what is shared counts as often as it is met; a slice's spare places count too). A statement '..UptoSaid' is the law's where the arguments, and the package variables that the reading takes, are together of bulk at most 1048576: NARROWER than '..Said'. Prove '..Said' where nothing that the law and all that it calls make is longer than what came in: it says more and counts as full. Else prove '..UptoSaid'. A law counts once. -/
mutual
def uptoBulk {H : Type} : DataW H → Nat
  | .lit (.string bytes) => bytes.length + 1
  | .lit _ => 1
  | .nil => 1
  | .ptr d => uptoBulk d + 1
  | .slice elems spare => uptoBulkAll elems + uptoBulkAll spare + 1
  | .agg parts => uptoBulkAll parts + 1
  | .iface _ d => uptoBulk d + 1
  | .map entries => uptoBulkEntries entries + 1
  | .held _ => 1
def uptoBulkAll {H : Type} : List (DataW H) → Nat
  | [] => 0
  | d :: r => uptoBulk d + uptoBulkAll r
def uptoBulkEntries {H : Type} : List (Lit × DataW H) → Nat
  | [] => 0
  | x :: r => uptoBulkEntry x + uptoBulkEntries r
def uptoBulkEntry {H : Type} : Lit × DataW H → Nat
  | (.string bytes, d) => bytes.length + uptoBulk d + 1
  | (_, d) => uptoBulk d + 1
 end
def uptoSmall : (H : Type) → List (DataW H) → Bool := fun _ ds => decide (uptoBulkAll ds ≤ 1048576)
def OpenSpec.upto (s : _root_.Go.ChangeSpec) : _root_.Go.OpenSpec := { _root_.Go.OpenSpec.ofChange s with cond := some uptoSmall }

/-- 'laws.FnExactDeltaMany', WHERE WHAT IT READS IS OF BULK AT MOST 1048576: true; the input reads as it did. -/
def fnExactDeltaManyUptoRow : OpenClaim := { program := "ytgcmbmjpgaadcaa", sum := "de635f7147b903a2574118422944c8f77b772026ca841e18c9af91afe68eb89d", func := "loop.example/wayboard/laws.FnExactDeltaMany", spec := "fnExactDeltaMany", apart := false, narrowed := true }
def FnExactDeltaManyUptoSaid : Prop := fnExactDeltaManyUptoRow.holds Try.pinned (OpenSpec.upto fnExactDeltaManySpec)

/-- 'laws.FnExactPolicyOk', WHERE WHAT IT READS IS OF BULK AT MOST 1048576: true; the input reads as it did. -/
def fnExactPolicyOkUptoRow : OpenClaim := { program := "ytgcmbmjpgaadcaa", sum := "de635f7147b903a2574118422944c8f77b772026ca841e18c9af91afe68eb89d", func := "loop.example/wayboard/laws.FnExactPolicyOk", spec := "fnExactPolicyOk", unfollowed := true, recurses := true, apart := false, narrowed := true }
def FnExactPolicyOkUptoSaid : Prop := fnExactPolicyOkUptoRow.holds Try.pinned (OpenSpec.upto fnExactPolicyOkSpec)

/-- 'laws.FnExactClauseOk', WHERE WHAT IT READS IS OF BULK AT MOST 1048576: true; the input reads as it did. -/
def fnExactClauseOkUptoRow : OpenClaim := { program := "ytgcmbmjpgaadcaa", sum := "de635f7147b903a2574118422944c8f77b772026ca841e18c9af91afe68eb89d", func := "loop.example/wayboard/laws.FnExactClauseOk", spec := "fnExactClauseOk", apart := false, narrowed := true }
def FnExactClauseOkUptoSaid : Prop := fnExactClauseOkUptoRow.holds Try.pinned (OpenSpec.upto fnExactClauseOkSpec)

end Rows
end Go.Proofs.Ytgcmbmjpgaadcaa
