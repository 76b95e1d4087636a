/-
  No cell of these rows narrows 'for every input' (looked for: loops, veiled, ifaces, maps, wideKeys, modest, calm, conditions, laid).
  DERIVED. THE GIVEN ROWS OF THIS SEAT. 5 by the template 'for every input the law returns true; each argument reads behind the call as it read before'; 0 by the template 'total and deterministic' (their statements: YthkfgdclbjabeaaTotals.lean).
  GIVEN WITH THE SEED: the statements are not yours to turn. If you find one false, say at which input.
  Laid BY PROGRAM, IN A SANDBOX (cutbox-rows.mjs): the forced cells as the released guide's own fill.sh prints them over the translation e54ce9862355cfca… (all of the seat's roots in one cut). By AI agents, Wed Nov 11 2026. No macro, syntax, notation, axiom, sorry.
-/
import Derived.Test.YthkfgdclbjabeaaChecked
import GoSem.Claim
import GoSem.ClaimJoined
import GoSem.ClaimMapViews
import Derived.JoinedTies
import Derived.KernelRfl
namespace Go.Proofs.Ythkfgdclbjabeaa
/- THE CELL 'sum', in the pinned program and in every row, IS THE sha256 OF THE DUMP (.gsa) THAT YthkfgdclbjabeaaProg.lean LOADS. Nothing in Lean hashes anything: it is a label: what it is worth is what the hold of that sum in a sandbox is worth. -/
noncomputable def Try.pinned : Pinned := { name := "ythkfgdclbjabeaa", sum := "e54ce9862355cfca3b9ffce7d45a48b5b57f3feeb9dc5043af8bc97f819c9037", checked := Try.checked }
namespace Rows
def none {H : Type} : Left H := { results := [], args := [] }

/-- 'laws.FnRangeForm': WHATEVER THE INPUT: true; the input reads as it did. -/
def fnRangeFormSpec : ChangeSpec := { name := "fnRangeForm", fn := fun _ => fun
  | [d] => { results := [.lit (.bool true)], args := [d] }
  | _ => none }
def fnRangeFormRow : OpenClaim := { program := "ythkfgdclbjabeaa", sum := "e54ce9862355cfca3b9ffce7d45a48b5b57f3feeb9dc5043af8bc97f819c9037", func := "loop.example/wayboard/laws.FnRangeForm", spec := "fnRangeForm", apart := false }
def FnRangeFormSaid : Prop := fnRangeFormRow.holds Try.pinned (OpenSpec.ofChange fnRangeFormSpec)

/-- ITS FALSE NEIGHBOUR: 'it returns false'. Refute it at one input. -/
def fnRangeFormWrong : ChangeSpec := { name := "fnRangeForm", fn := fun _ => fun
  | [d] => { results := [.lit (.bool false)], args := [d] }
  | _ => none }
def FnRangeFormWrongFalsely : Prop := fnRangeFormRow.holds Try.pinned (OpenSpec.ofChange fnRangeFormWrong)

/-- 'laws.FnRangeMany': WHATEVER THE INPUT: true; the input reads as it did. -/
def fnRangeManySpec : ChangeSpec := { name := "fnRangeMany", fn := fun _ => fun
  | [d] => { results := [.lit (.bool true)], args := [d] }
  | _ => none }
def fnRangeManyRow : OpenClaim := { program := "ythkfgdclbjabeaa", sum := "e54ce9862355cfca3b9ffce7d45a48b5b57f3feeb9dc5043af8bc97f819c9037", func := "loop.example/wayboard/laws.FnRangeMany", spec := "fnRangeMany", apart := false }
def FnRangeManySaid : Prop := fnRangeManyRow.holds Try.pinned (OpenSpec.ofChange fnRangeManySpec)

/-- ITS FALSE NEIGHBOUR: 'it returns false'. Refute it at one input. -/
def fnRangeManyWrong : ChangeSpec := { name := "fnRangeMany", fn := fun _ => fun
  | [d] => { results := [.lit (.bool false)], args := [d] }
  | _ => none }
def FnRangeManyWrongFalsely : Prop := fnRangeManyRow.holds Try.pinned (OpenSpec.ofChange fnRangeManyWrong)

/-- 'laws.FnExactRangeHalf': WHATEVER THE INPUT: true; the input reads as it did. -/
def fnExactRangeHalfSpec : ChangeSpec := { name := "fnExactRangeHalf", fn := fun _ => fun
  | [d1, d2] => { results := [.lit (.bool true)], args := [d1, d2] }
  | _ => none }
def fnExactRangeHalfRow : OpenClaim := { program := "ythkfgdclbjabeaa", sum := "e54ce9862355cfca3b9ffce7d45a48b5b57f3feeb9dc5043af8bc97f819c9037", func := "loop.example/wayboard/laws.FnExactRangeHalf", spec := "fnExactRangeHalf", unfollowed := true, recurses := true, apart := false }
def FnExactRangeHalfSaid : Prop := fnExactRangeHalfRow.holds Try.pinned (OpenSpec.ofChange fnExactRangeHalfSpec)

/-- ITS FALSE NEIGHBOUR: 'it returns false'. Refute it at one input. -/
def fnExactRangeHalfWrong : ChangeSpec := { name := "fnExactRangeHalf", fn := fun _ => fun
  | [d1, d2] => { results := [.lit (.bool false)], args := [d1, d2] }
  | _ => none }
def FnExactRangeHalfWrongFalsely : Prop := fnExactRangeHalfRow.holds Try.pinned (OpenSpec.ofChange fnExactRangeHalfWrong)

/-- 'laws.FnRangeHas': WHATEVER THE INPUT: true; the input reads as it did. -/
def fnRangeHasSpec : ChangeSpec := { name := "fnRangeHas", fn := fun _ => fun
  | [d] => { results := [.lit (.bool true)], args := [d] }
  | _ => none }
def fnRangeHasRow : OpenClaim := { program := "ythkfgdclbjabeaa", sum := "e54ce9862355cfca3b9ffce7d45a48b5b57f3feeb9dc5043af8bc97f819c9037", func := "loop.example/wayboard/laws.FnRangeHas", spec := "fnRangeHas", apart := false }
def FnRangeHasSaid : Prop := fnRangeHasRow.holds Try.pinned (OpenSpec.ofChange fnRangeHasSpec)

/-- ITS FALSE NEIGHBOUR: 'it returns false'. Refute it at one input. -/
def fnRangeHasWrong : ChangeSpec := { name := "fnRangeHas", fn := fun _ => fun
  | [d] => { results := [.lit (.bool false)], args := [d] }
  | _ => none }
def FnRangeHasWrongFalsely : Prop := fnRangeHasRow.holds Try.pinned (OpenSpec.ofChange fnRangeHasWrong)

/-- 'laws.FnAddrOne': WHATEVER THE INPUT: true; the input reads as it did. -/
def fnAddrOneSpec : ChangeSpec := { name := "fnAddrOne", fn := fun _ => fun
  | [d1, d2] => { results := [.lit (.bool true)], args := [d1, d2] }
  | _ => none }
def fnAddrOneRow : OpenClaim := { program := "ythkfgdclbjabeaa", sum := "e54ce9862355cfca3b9ffce7d45a48b5b57f3feeb9dc5043af8bc97f819c9037", func := "loop.example/wayboard/laws.FnAddrOne", spec := "fnAddrOne", apart := false }
def FnAddrOneSaid : Prop := fnAddrOneRow.holds Try.pinned (OpenSpec.ofChange fnAddrOneSpec)

/-- ITS FALSE NEIGHBOUR: 'it returns false'. Refute it at one input. -/
def fnAddrOneWrong : ChangeSpec := { name := "fnAddrOne", fn := fun _ => fun
  | [d1, d2] => { results := [.lit (.bool false)], args := [d1, d2] }
  | _ => none }
def FnAddrOneWrongFalsely : Prop := fnAddrOneRow.holds Try.pinned (OpenSpec.ofChange fnAddrOneWrong)

/- THE SECOND FORM. 'bulk': how many values and letters a reading holds, each counted each time it is reached (what is shared counts as often as it is met; a slice's spare places count too). A statement '..UptoSaid' is the law's where the arguments, and the package variables that the reading takes, are together of bulk at most 1048576: NARROWER than '..Said'. Prove '..Said' where nothing that the law and all that it calls make is longer than what came in: it says more and counts as full. Else prove '..UptoSaid'. A law counts once. -/
mutual
def uptoBulk {H : Type} : DataW H → Nat
  | .lit (.string bytes) => bytes.length + 1
  | .lit _ => 1
  | .nil => 1
  | .ptr d => uptoBulk d + 1
  | .slice elems spare => uptoBulkAll elems + uptoBulkAll spare + 1
  | .agg parts => uptoBulkAll parts + 1
  | .iface _ d => uptoBulk d + 1
  | .map entries => uptoBulkEntries entries + 1
  | .held _ => 1
def uptoBulkAll {H : Type} : List (DataW H) → Nat
  | [] => 0
  | d :: r => uptoBulk d + uptoBulkAll r
def uptoBulkEntries {H : Type} : List (Lit × DataW H) → Nat
  | [] => 0
  | x :: r => uptoBulkEntry x + uptoBulkEntries r
def uptoBulkEntry {H : Type} : Lit × DataW H → Nat
  | (.string bytes, d) => bytes.length + uptoBulk d + 1
  | (_, d) => uptoBulk d + 1
 end
def uptoSmall : (H : Type) → List (DataW H) → Bool := fun _ ds => decide (uptoBulkAll ds ≤ 1048576)
def OpenSpec.upto (s : _root_.Go.ChangeSpec) : _root_.Go.OpenSpec := { _root_.Go.OpenSpec.ofChange s with cond := some uptoSmall }

/-- 'laws.FnRangeForm', WHERE WHAT IT READS IS OF BULK AT MOST 1048576: true; the input reads as it did. -/
def fnRangeFormUptoRow : OpenClaim := { program := "ythkfgdclbjabeaa", sum := "e54ce9862355cfca3b9ffce7d45a48b5b57f3feeb9dc5043af8bc97f819c9037", func := "loop.example/wayboard/laws.FnRangeForm", spec := "fnRangeForm", apart := false, narrowed := true }
def FnRangeFormUptoSaid : Prop := fnRangeFormUptoRow.holds Try.pinned (OpenSpec.upto fnRangeFormSpec)

/-- 'laws.FnRangeMany', WHERE WHAT IT READS IS OF BULK AT MOST 1048576: true; the input reads as it did. -/
def fnRangeManyUptoRow : OpenClaim := { program := "ythkfgdclbjabeaa", sum := "e54ce9862355cfca3b9ffce7d45a48b5b57f3feeb9dc5043af8bc97f819c9037", func := "loop.example/wayboard/laws.FnRangeMany", spec := "fnRangeMany", apart := false, narrowed := true }
def FnRangeManyUptoSaid : Prop := fnRangeManyUptoRow.holds Try.pinned (OpenSpec.upto fnRangeManySpec)

/-- 'laws.FnExactRangeHalf', WHERE WHAT IT READS IS OF BULK AT MOST 1048576: true; the input reads as it did. -/
def fnExactRangeHalfUptoRow : OpenClaim := { program := "ythkfgdclbjabeaa", sum := "e54ce9862355cfca3b9ffce7d45a48b5b57f3feeb9dc5043af8bc97f819c9037", func := "loop.example/wayboard/laws.FnExactRangeHalf", spec := "fnExactRangeHalf", unfollowed := true, recurses := true, apart := false, narrowed := true }
def FnExactRangeHalfUptoSaid : Prop := fnExactRangeHalfUptoRow.holds Try.pinned (OpenSpec.upto fnExactRangeHalfSpec)

/-- 'laws.FnRangeHas', WHERE WHAT IT READS IS OF BULK AT MOST 1048576: true; the input reads as it did. -/
def fnRangeHasUptoRow : OpenClaim := { program := "ythkfgdclbjabeaa", sum := "e54ce9862355cfca3b9ffce7d45a48b5b57f3feeb9dc5043af8bc97f819c9037", func := "loop.example/wayboard/laws.FnRangeHas", spec := "fnRangeHas", apart := false, narrowed := true }
def FnRangeHasUptoSaid : Prop := fnRangeHasUptoRow.holds Try.pinned (OpenSpec.upto fnRangeHasSpec)

/-- 'laws.FnAddrOne', WHERE WHAT IT READS IS OF BULK AT MOST 1048576: true; the input reads as it did. -/
def fnAddrOneUptoRow : OpenClaim := { program := "ythkfgdclbjabeaa", sum := "e54ce9862355cfca3b9ffce7d45a48b5b57f3feeb9dc5043af8bc97f819c9037", func := "loop.example/wayboard/laws.FnAddrOne", spec := "fnAddrOne", apart := false, narrowed := true }
def FnAddrOneUptoSaid : Prop := fnAddrOneUptoRow.holds Try.pinned (OpenSpec.upto fnAddrOneSpec)

end Rows
end Go.Proofs.Ythkfgdclbjabeaa
