/-
  No cell of these rows narrows 'for every input' (looked for: loops, veiled, ifaces, maps, wideKeys, modest, calm, conditions, laid).
  DERIVED. THE GIVEN ROWS OF THIS SEAT. 12 by the template 'for every input the law returns true; each argument reads behind the call as it read before'; 0 by the template 'total and deterministic' (their statements: YtofblgnoogbmhaaTotals.lean).
  GIVEN WITH THE SEED: the statements are not yours to turn. If you find one false, say at which input.
  Laid BY PROGRAM, IN A SANDBOX (cutbox-rows.mjs): the forced cells as the released guide's own fill.sh prints them over the translation 8880568b6549b0a0… (all of the seat's roots in one cut). By AI agents, Wed Nov 11 2026. No macro, syntax, notation, axiom, sorry.
-/
import Derived.Test.YtofblgnoogbmhaaChecked
import GoSem.Claim
import GoSem.ClaimJoined
import GoSem.ClaimMapViews
import Derived.JoinedTies
import Derived.KernelRfl
namespace Go.Proofs.Ytofblgnoogbmhaa
/- THE CELL 'sum', in the pinned program and in every row, IS THE sha256 OF THE DUMP (.gsa) THAT YtofblgnoogbmhaaProg.lean LOADS. Nothing in Lean hashes anything: it is a label: what it is worth is what the hold of that sum in a sandbox is worth. -/
noncomputable def Try.pinned : Pinned := { name := "ytofblgnoogbmhaa", sum := "8880568b6549b0a0f10f7807f8e18027f2e3b6cb22505b0c184519daa8ed5a21", checked := Try.checked }
namespace Rows
def none {H : Type} : Left H := { results := [], args := [] }

/-- 'laws.FnExactConstants': WHATEVER THE INPUT: true; the input reads as it did. -/
def fnExactConstantsSpec : ChangeSpec := { name := "fnExactConstants", fn := fun _ => fun
  | [] => { results := [.lit (.bool true)], args := [] }
  | _ => none }
def fnExactConstantsRow : OpenClaim := { program := "ytofblgnoogbmhaa", sum := "8880568b6549b0a0f10f7807f8e18027f2e3b6cb22505b0c184519daa8ed5a21", func := "loop.example/wayboard/laws.FnExactConstants", spec := "fnExactConstants", apart := false }
def FnExactConstantsSaid : Prop := fnExactConstantsRow.holds Try.pinned (OpenSpec.ofChange fnExactConstantsSpec)

/-- ITS FALSE NEIGHBOUR: 'it returns false'. Refute it at one input. -/
def fnExactConstantsWrong : ChangeSpec := { name := "fnExactConstants", fn := fun _ => fun
  | [] => { results := [.lit (.bool false)], args := [] }
  | _ => none }
def FnExactConstantsWrongFalsely : Prop := fnExactConstantsRow.holds Try.pinned (OpenSpec.ofChange fnExactConstantsWrong)

/-- 'laws.FnExactRangeOk': WHATEVER THE INPUT: true; the input reads as it did. -/
def fnExactRangeOkSpec : ChangeSpec := { name := "fnExactRangeOk", fn := fun _ => fun
  | [d] => { results := [.lit (.bool true)], args := [d] }
  | _ => none }
def fnExactRangeOkRow : OpenClaim := { program := "ytofblgnoogbmhaa", sum := "8880568b6549b0a0f10f7807f8e18027f2e3b6cb22505b0c184519daa8ed5a21", func := "loop.example/wayboard/laws.FnExactRangeOk", spec := "fnExactRangeOk", apart := false }
def FnExactRangeOkSaid : Prop := fnExactRangeOkRow.holds Try.pinned (OpenSpec.ofChange fnExactRangeOkSpec)

/-- ITS FALSE NEIGHBOUR: 'it returns false'. Refute it at one input. -/
def fnExactRangeOkWrong : ChangeSpec := { name := "fnExactRangeOk", fn := fun _ => fun
  | [d] => { results := [.lit (.bool false)], args := [d] }
  | _ => none }
def FnExactRangeOkWrongFalsely : Prop := fnExactRangeOkRow.holds Try.pinned (OpenSpec.ofChange fnExactRangeOkWrong)

/-- 'laws.FnExactRangeHas': WHATEVER THE INPUT: true; the input reads as it did. -/
def fnExactRangeHasSpec : ChangeSpec := { name := "fnExactRangeHas", fn := fun _ => fun
  | [d1, d2] => { results := [.lit (.bool true)], args := [d1, d2] }
  | _ => none }
def fnExactRangeHasRow : OpenClaim := { program := "ytofblgnoogbmhaa", sum := "8880568b6549b0a0f10f7807f8e18027f2e3b6cb22505b0c184519daa8ed5a21", func := "loop.example/wayboard/laws.FnExactRangeHas", spec := "fnExactRangeHas", apart := false }
def FnExactRangeHasSaid : Prop := fnExactRangeHasRow.holds Try.pinned (OpenSpec.ofChange fnExactRangeHasSpec)

/-- ITS FALSE NEIGHBOUR: 'it returns false'. Refute it at one input. -/
def fnExactRangeHasWrong : ChangeSpec := { name := "fnExactRangeHas", fn := fun _ => fun
  | [d1, d2] => { results := [.lit (.bool false)], args := [d1, d2] }
  | _ => none }
def FnExactRangeHasWrongFalsely : Prop := fnExactRangeHasRow.holds Try.pinned (OpenSpec.ofChange fnExactRangeHasWrong)

/-- 'laws.FnExactRangeMany': WHATEVER THE INPUT: true; the input reads as it did. -/
def fnExactRangeManySpec : ChangeSpec := { name := "fnExactRangeMany", fn := fun _ => fun
  | [d] => { results := [.lit (.bool true)], args := [d] }
  | _ => none }
def fnExactRangeManyRow : OpenClaim := { program := "ytofblgnoogbmhaa", sum := "8880568b6549b0a0f10f7807f8e18027f2e3b6cb22505b0c184519daa8ed5a21", func := "loop.example/wayboard/laws.FnExactRangeMany", spec := "fnExactRangeMany", apart := false }
def FnExactRangeManySaid : Prop := fnExactRangeManyRow.holds Try.pinned (OpenSpec.ofChange fnExactRangeManySpec)

/-- ITS FALSE NEIGHBOUR: 'it returns false'. Refute it at one input. -/
def fnExactRangeManyWrong : ChangeSpec := { name := "fnExactRangeMany", fn := fun _ => fun
  | [d] => { results := [.lit (.bool false)], args := [d] }
  | _ => none }
def FnExactRangeManyWrongFalsely : Prop := fnExactRangeManyRow.holds Try.pinned (OpenSpec.ofChange fnExactRangeManyWrong)

/-- 'laws.FnExactRangeIn': WHATEVER THE INPUT: true; the input reads as it did. -/
def fnExactRangeInSpec : ChangeSpec := { name := "fnExactRangeIn", fn := fun _ => fun
  | [d1, d2] => { results := [.lit (.bool true)], args := [d1, d2] }
  | _ => none }
def fnExactRangeInRow : OpenClaim := { program := "ytofblgnoogbmhaa", sum := "8880568b6549b0a0f10f7807f8e18027f2e3b6cb22505b0c184519daa8ed5a21", func := "loop.example/wayboard/laws.FnExactRangeIn", spec := "fnExactRangeIn", apart := false }
def FnExactRangeInSaid : Prop := fnExactRangeInRow.holds Try.pinned (OpenSpec.ofChange fnExactRangeInSpec)

/-- ITS FALSE NEIGHBOUR: 'it returns false'. Refute it at one input. -/
def fnExactRangeInWrong : ChangeSpec := { name := "fnExactRangeIn", fn := fun _ => fun
  | [d1, d2] => { results := [.lit (.bool false)], args := [d1, d2] }
  | _ => none }
def FnExactRangeInWrongFalsely : Prop := fnExactRangeInRow.holds Try.pinned (OpenSpec.ofChange fnExactRangeInWrong)

/-- 'laws.FnRangeForm': WHATEVER THE INPUT: true; the input reads as it did. -/
def fnRangeFormSpec : ChangeSpec := { name := "fnRangeForm", fn := fun _ => fun
  | [d] => { results := [.lit (.bool true)], args := [d] }
  | _ => none }
def fnRangeFormRow : OpenClaim := { program := "ytofblgnoogbmhaa", sum := "8880568b6549b0a0f10f7807f8e18027f2e3b6cb22505b0c184519daa8ed5a21", func := "loop.example/wayboard/laws.FnRangeForm", spec := "fnRangeForm", apart := false }
def FnRangeFormSaid : Prop := fnRangeFormRow.holds Try.pinned (OpenSpec.ofChange fnRangeFormSpec)

/-- ITS FALSE NEIGHBOUR: 'it returns false'. Refute it at one input. -/
def fnRangeFormWrong : ChangeSpec := { name := "fnRangeForm", fn := fun _ => fun
  | [d] => { results := [.lit (.bool false)], args := [d] }
  | _ => none }
def FnRangeFormWrongFalsely : Prop := fnRangeFormRow.holds Try.pinned (OpenSpec.ofChange fnRangeFormWrong)

/-- 'laws.FnRangeMany': WHATEVER THE INPUT: true; the input reads as it did. -/
def fnRangeManySpec : ChangeSpec := { name := "fnRangeMany", fn := fun _ => fun
  | [d] => { results := [.lit (.bool true)], args := [d] }
  | _ => none }
def fnRangeManyRow : OpenClaim := { program := "ytofblgnoogbmhaa", sum := "8880568b6549b0a0f10f7807f8e18027f2e3b6cb22505b0c184519daa8ed5a21", func := "loop.example/wayboard/laws.FnRangeMany", spec := "fnRangeMany", apart := false }
def FnRangeManySaid : Prop := fnRangeManyRow.holds Try.pinned (OpenSpec.ofChange fnRangeManySpec)

/-- ITS FALSE NEIGHBOUR: 'it returns false'. Refute it at one input. -/
def fnRangeManyWrong : ChangeSpec := { name := "fnRangeMany", fn := fun _ => fun
  | [d] => { results := [.lit (.bool false)], args := [d] }
  | _ => none }
def FnRangeManyWrongFalsely : Prop := fnRangeManyRow.holds Try.pinned (OpenSpec.ofChange fnRangeManyWrong)

/-- 'laws.FnExactRangeHalf': WHATEVER THE INPUT: true; the input reads as it did. -/
def fnExactRangeHalfSpec : ChangeSpec := { name := "fnExactRangeHalf", fn := fun _ => fun
  | [d1, d2] => { results := [.lit (.bool true)], args := [d1, d2] }
  | _ => none }
def fnExactRangeHalfRow : OpenClaim := { program := "ytofblgnoogbmhaa", sum := "8880568b6549b0a0f10f7807f8e18027f2e3b6cb22505b0c184519daa8ed5a21", func := "loop.example/wayboard/laws.FnExactRangeHalf", spec := "fnExactRangeHalf", unfollowed := true, recurses := true, apart := false }
def FnExactRangeHalfSaid : Prop := fnExactRangeHalfRow.holds Try.pinned (OpenSpec.ofChange fnExactRangeHalfSpec)

/-- ITS FALSE NEIGHBOUR: 'it returns false'. Refute it at one input. -/
def fnExactRangeHalfWrong : ChangeSpec := { name := "fnExactRangeHalf", fn := fun _ => fun
  | [d1, d2] => { results := [.lit (.bool false)], args := [d1, d2] }
  | _ => none }
def FnExactRangeHalfWrongFalsely : Prop := fnExactRangeHalfRow.holds Try.pinned (OpenSpec.ofChange fnExactRangeHalfWrong)

/-- 'laws.FnRangeHas': WHATEVER THE INPUT: true; the input reads as it did. -/
def fnRangeHasSpec : ChangeSpec := { name := "fnRangeHas", fn := fun _ => fun
  | [d] => { results := [.lit (.bool true)], args := [d] }
  | _ => none }
def fnRangeHasRow : OpenClaim := { program := "ytofblgnoogbmhaa", sum := "8880568b6549b0a0f10f7807f8e18027f2e3b6cb22505b0c184519daa8ed5a21", func := "loop.example/wayboard/laws.FnRangeHas", spec := "fnRangeHas", apart := false }
def FnRangeHasSaid : Prop := fnRangeHasRow.holds Try.pinned (OpenSpec.ofChange fnRangeHasSpec)

/-- ITS FALSE NEIGHBOUR: 'it returns false'. Refute it at one input. -/
def fnRangeHasWrong : ChangeSpec := { name := "fnRangeHas", fn := fun _ => fun
  | [d] => { results := [.lit (.bool false)], args := [d] }
  | _ => none }
def FnRangeHasWrongFalsely : Prop := fnRangeHasRow.holds Try.pinned (OpenSpec.ofChange fnRangeHasWrong)

/-- 'laws.FnAddrOne': WHATEVER THE INPUT: true; the input reads as it did. -/
def fnAddrOneSpec : ChangeSpec := { name := "fnAddrOne", fn := fun _ => fun
  | [d1, d2] => { results := [.lit (.bool true)], args := [d1, d2] }
  | _ => none }
def fnAddrOneRow : OpenClaim := { program := "ytofblgnoogbmhaa", sum := "8880568b6549b0a0f10f7807f8e18027f2e3b6cb22505b0c184519daa8ed5a21", func := "loop.example/wayboard/laws.FnAddrOne", spec := "fnAddrOne", apart := false }
def FnAddrOneSaid : Prop := fnAddrOneRow.holds Try.pinned (OpenSpec.ofChange fnAddrOneSpec)

/-- ITS FALSE NEIGHBOUR: 'it returns false'. Refute it at one input. -/
def fnAddrOneWrong : ChangeSpec := { name := "fnAddrOne", fn := fun _ => fun
  | [d1, d2] => { results := [.lit (.bool false)], args := [d1, d2] }
  | _ => none }
def FnAddrOneWrongFalsely : Prop := fnAddrOneRow.holds Try.pinned (OpenSpec.ofChange fnAddrOneWrong)

/-- 'laws.FnExactRangeCmp': WHATEVER THE INPUT: true; the input reads as it did. -/
def fnExactRangeCmpSpec : ChangeSpec := { name := "fnExactRangeCmp", fn := fun _ => fun
  | [d1, d2] => { results := [.lit (.bool true)], args := [d1, d2] }
  | _ => none }
def fnExactRangeCmpRow : OpenClaim := { program := "ytofblgnoogbmhaa", sum := "8880568b6549b0a0f10f7807f8e18027f2e3b6cb22505b0c184519daa8ed5a21", func := "loop.example/wayboard/laws.FnExactRangeCmp", spec := "fnExactRangeCmp", apart := false }
def FnExactRangeCmpSaid : Prop := fnExactRangeCmpRow.holds Try.pinned (OpenSpec.ofChange fnExactRangeCmpSpec)

/-- ITS FALSE NEIGHBOUR: 'it returns false'. Refute it at one input. -/
def fnExactRangeCmpWrong : ChangeSpec := { name := "fnExactRangeCmp", fn := fun _ => fun
  | [d1, d2] => { results := [.lit (.bool false)], args := [d1, d2] }
  | _ => none }
def FnExactRangeCmpWrongFalsely : Prop := fnExactRangeCmpRow.holds Try.pinned (OpenSpec.ofChange fnExactRangeCmpWrong)

/-- 'laws.FnExactHoldHas': WHATEVER THE INPUT: true; the input reads as it did. -/
def fnExactHoldHasSpec : ChangeSpec := { name := "fnExactHoldHas", fn := fun _ => fun
  | [d1, d2, d3] => { results := [.lit (.bool true)], args := [d1, d2, d3] }
  | _ => none }
def fnExactHoldHasRow : OpenClaim := { program := "ytofblgnoogbmhaa", sum := "8880568b6549b0a0f10f7807f8e18027f2e3b6cb22505b0c184519daa8ed5a21", func := "loop.example/wayboard/laws.FnExactHoldHas", spec := "fnExactHoldHas", unfollowed := true, recurses := true, apart := false }
def FnExactHoldHasSaid : Prop := fnExactHoldHasRow.holds Try.pinned (OpenSpec.ofChange fnExactHoldHasSpec)

/-- ITS FALSE NEIGHBOUR: 'it returns false'. Refute it at one input. -/
def fnExactHoldHasWrong : ChangeSpec := { name := "fnExactHoldHas", fn := fun _ => fun
  | [d1, d2, d3] => { results := [.lit (.bool false)], args := [d1, d2, d3] }
  | _ => none }
def FnExactHoldHasWrongFalsely : Prop := fnExactHoldHasRow.holds Try.pinned (OpenSpec.ofChange fnExactHoldHasWrong)

/- THE SECOND FORM. 'bulk': how many values and letters a reading holds, each counted each time it is reached (what is shared counts as often as it is met; a slice's spare places count too). A statement '..UptoSaid' is the law's where the arguments, and the package variables that the reading takes, are together of bulk at most 1048576: NARROWER than '..Said'. Prove '..Said' where nothing that the law and all that it calls make is longer than what came in: it says more and counts as full. Else prove '..UptoSaid'. A law counts once. -/
mutual
def uptoBulk {H : Type} : DataW H → Nat
  | .lit (.string bytes) => bytes.length + 1
  | .lit _ => 1
  | .nil => 1
  | .ptr d => uptoBulk d + 1
  | .slice elems spare => uptoBulkAll elems + uptoBulkAll spare + 1
  | .agg parts => uptoBulkAll parts + 1
  | .iface _ d => uptoBulk d + 1
  | .map entries => uptoBulkEntries entries + 1
  | .held _ => 1
def uptoBulkAll {H : Type} : List (DataW H) → Nat
  | [] => 0
  | d :: r => uptoBulk d + uptoBulkAll r
def uptoBulkEntries {H : Type} : List (Lit × DataW H) → Nat
  | [] => 0
  | x :: r => uptoBulkEntry x + uptoBulkEntries r
def uptoBulkEntry {H : Type} : Lit × DataW H → Nat
  | (.string bytes, d) => bytes.length + uptoBulk d + 1
  | (_, d) => uptoBulk d + 1
 end
def uptoSmall : (H : Type) → List (DataW H) → Bool := fun _ ds => decide (uptoBulkAll ds ≤ 1048576)
def OpenSpec.upto (s : _root_.Go.ChangeSpec) : _root_.Go.OpenSpec := { _root_.Go.OpenSpec.ofChange s with cond := some uptoSmall }

/-- 'laws.FnExactConstants', WHERE WHAT IT READS IS OF BULK AT MOST 1048576: true; the input reads as it did. -/
def fnExactConstantsUptoRow : OpenClaim := { program := "ytofblgnoogbmhaa", sum := "8880568b6549b0a0f10f7807f8e18027f2e3b6cb22505b0c184519daa8ed5a21", func := "loop.example/wayboard/laws.FnExactConstants", spec := "fnExactConstants", apart := false, narrowed := true }
def FnExactConstantsUptoSaid : Prop := fnExactConstantsUptoRow.holds Try.pinned (OpenSpec.upto fnExactConstantsSpec)

/-- 'laws.FnExactRangeOk', WHERE WHAT IT READS IS OF BULK AT MOST 1048576: true; the input reads as it did. -/
def fnExactRangeOkUptoRow : OpenClaim := { program := "ytofblgnoogbmhaa", sum := "8880568b6549b0a0f10f7807f8e18027f2e3b6cb22505b0c184519daa8ed5a21", func := "loop.example/wayboard/laws.FnExactRangeOk", spec := "fnExactRangeOk", apart := false, narrowed := true }
def FnExactRangeOkUptoSaid : Prop := fnExactRangeOkUptoRow.holds Try.pinned (OpenSpec.upto fnExactRangeOkSpec)

/-- 'laws.FnExactRangeHas', WHERE WHAT IT READS IS OF BULK AT MOST 1048576: true; the input reads as it did. -/
def fnExactRangeHasUptoRow : OpenClaim := { program := "ytofblgnoogbmhaa", sum := "8880568b6549b0a0f10f7807f8e18027f2e3b6cb22505b0c184519daa8ed5a21", func := "loop.example/wayboard/laws.FnExactRangeHas", spec := "fnExactRangeHas", apart := false, narrowed := true }
def FnExactRangeHasUptoSaid : Prop := fnExactRangeHasUptoRow.holds Try.pinned (OpenSpec.upto fnExactRangeHasSpec)

/-- 'laws.FnExactRangeMany', WHERE WHAT IT READS IS OF BULK AT MOST 1048576: true; the input reads as it did. -/
def fnExactRangeManyUptoRow : OpenClaim := { program := "ytofblgnoogbmhaa", sum := "8880568b6549b0a0f10f7807f8e18027f2e3b6cb22505b0c184519daa8ed5a21", func := "loop.example/wayboard/laws.FnExactRangeMany", spec := "fnExactRangeMany", apart := false, narrowed := true }
def FnExactRangeManyUptoSaid : Prop := fnExactRangeManyUptoRow.holds Try.pinned (OpenSpec.upto fnExactRangeManySpec)

/-- 'laws.FnExactRangeIn', WHERE WHAT IT READS IS OF BULK AT MOST 1048576: true; the input reads as it did. -/
def fnExactRangeInUptoRow : OpenClaim := { program := "ytofblgnoogbmhaa", sum := "8880568b6549b0a0f10f7807f8e18027f2e3b6cb22505b0c184519daa8ed5a21", func := "loop.example/wayboard/laws.FnExactRangeIn", spec := "fnExactRangeIn", apart := false, narrowed := true }
def FnExactRangeInUptoSaid : Prop := fnExactRangeInUptoRow.holds Try.pinned (OpenSpec.upto fnExactRangeInSpec)

/-- 'laws.FnRangeForm', WHERE WHAT IT READS IS OF BULK AT MOST 1048576: true; the input reads as it did. -/
def fnRangeFormUptoRow : OpenClaim := { program := "ytofblgnoogbmhaa", sum := "8880568b6549b0a0f10f7807f8e18027f2e3b6cb22505b0c184519daa8ed5a21", func := "loop.example/wayboard/laws.FnRangeForm", spec := "fnRangeForm", apart := false, narrowed := true }
def FnRangeFormUptoSaid : Prop := fnRangeFormUptoRow.holds Try.pinned (OpenSpec.upto fnRangeFormSpec)

/-- 'laws.FnRangeMany', WHERE WHAT IT READS IS OF BULK AT MOST 1048576: true; the input reads as it did. -/
def fnRangeManyUptoRow : OpenClaim := { program := "ytofblgnoogbmhaa", sum := "8880568b6549b0a0f10f7807f8e18027f2e3b6cb22505b0c184519daa8ed5a21", func := "loop.example/wayboard/laws.FnRangeMany", spec := "fnRangeMany", apart := false, narrowed := true }
def FnRangeManyUptoSaid : Prop := fnRangeManyUptoRow.holds Try.pinned (OpenSpec.upto fnRangeManySpec)

/-- 'laws.FnExactRangeHalf', WHERE WHAT IT READS IS OF BULK AT MOST 1048576: true; the input reads as it did. -/
def fnExactRangeHalfUptoRow : OpenClaim := { program := "ytofblgnoogbmhaa", sum := "8880568b6549b0a0f10f7807f8e18027f2e3b6cb22505b0c184519daa8ed5a21", func := "loop.example/wayboard/laws.FnExactRangeHalf", spec := "fnExactRangeHalf", unfollowed := true, recurses := true, apart := false, narrowed := true }
def FnExactRangeHalfUptoSaid : Prop := fnExactRangeHalfUptoRow.holds Try.pinned (OpenSpec.upto fnExactRangeHalfSpec)

/-- 'laws.FnRangeHas', WHERE WHAT IT READS IS OF BULK AT MOST 1048576: true; the input reads as it did. -/
def fnRangeHasUptoRow : OpenClaim := { program := "ytofblgnoogbmhaa", sum := "8880568b6549b0a0f10f7807f8e18027f2e3b6cb22505b0c184519daa8ed5a21", func := "loop.example/wayboard/laws.FnRangeHas", spec := "fnRangeHas", apart := false, narrowed := true }
def FnRangeHasUptoSaid : Prop := fnRangeHasUptoRow.holds Try.pinned (OpenSpec.upto fnRangeHasSpec)

/-- 'laws.FnAddrOne', WHERE WHAT IT READS IS OF BULK AT MOST 1048576: true; the input reads as it did. -/
def fnAddrOneUptoRow : OpenClaim := { program := "ytofblgnoogbmhaa", sum := "8880568b6549b0a0f10f7807f8e18027f2e3b6cb22505b0c184519daa8ed5a21", func := "loop.example/wayboard/laws.FnAddrOne", spec := "fnAddrOne", apart := false, narrowed := true }
def FnAddrOneUptoSaid : Prop := fnAddrOneUptoRow.holds Try.pinned (OpenSpec.upto fnAddrOneSpec)

/-- 'laws.FnExactRangeCmp', WHERE WHAT IT READS IS OF BULK AT MOST 1048576: true; the input reads as it did. -/
def fnExactRangeCmpUptoRow : OpenClaim := { program := "ytofblgnoogbmhaa", sum := "8880568b6549b0a0f10f7807f8e18027f2e3b6cb22505b0c184519daa8ed5a21", func := "loop.example/wayboard/laws.FnExactRangeCmp", spec := "fnExactRangeCmp", apart := false, narrowed := true }
def FnExactRangeCmpUptoSaid : Prop := fnExactRangeCmpUptoRow.holds Try.pinned (OpenSpec.upto fnExactRangeCmpSpec)

/-- 'laws.FnExactHoldHas', WHERE WHAT IT READS IS OF BULK AT MOST 1048576: true; the input reads as it did. -/
def fnExactHoldHasUptoRow : OpenClaim := { program := "ytofblgnoogbmhaa", sum := "8880568b6549b0a0f10f7807f8e18027f2e3b6cb22505b0c184519daa8ed5a21", func := "loop.example/wayboard/laws.FnExactHoldHas", spec := "fnExactHoldHas", unfollowed := true, recurses := true, apart := false, narrowed := true }
def FnExactHoldHasUptoSaid : Prop := fnExactHoldHasUptoRow.holds Try.pinned (OpenSpec.upto fnExactHoldHasSpec)

end Rows
end Go.Proofs.Ytofblgnoogbmhaa
