/-
  No cell of these rows narrows 'for every input' (looked for: loops, veiled, ifaces, maps, wideKeys, modest, calm, conditions, laid).
  DERIVED. THE GIVEN ROWS OF THIS SEAT. 11 by the template 'for every input the law returns true; each argument reads behind the call as it read before'; 0 by the template 'total and deterministic' (their statements: YtddeecfhggfnkaaTotals.lean).
  GIVEN WITH THE SEED: the statements are not yours to turn. If you find one false, say at which input.
  Laid BY PROGRAM, IN A SANDBOX (cutbox-rows.mjs): the forced cells as the released guide's own fill.sh prints them over the translation 3c691ed35a718c15… (all of the seat's roots in one cut). By AI agents, Wed Nov 11 2026. No macro, syntax, notation, axiom, sorry.
-/
import Derived.Test.YtddeecfhggfnkaaChecked
import GoSem.Claim
import GoSem.ClaimJoined
import GoSem.ClaimMapViews
import Derived.JoinedTies
import Derived.KernelRfl
namespace Go.Proofs.Ytddeecfhggfnkaa
/- THE CELL 'sum', in the pinned program and in every row, IS THE sha256 OF THE DUMP (.gsa) THAT YtddeecfhggfnkaaProg.lean LOADS. Nothing in Lean hashes anything: it is a label: what it is worth is what the hold of that sum in a sandbox is worth. -/
noncomputable def Try.pinned : Pinned := { name := "ytddeecfhggfnkaa", sum := "3c691ed35a718c1538af5b42cc005f69cf0ff8a4c795b1a83df3ce676d7e54c0", checked := Try.checked }
namespace Rows
def none {H : Type} : Left H := { results := [], args := [] }

/-- 'laws.FnExactRelsOk': WHATEVER THE INPUT: true; the input reads as it did. -/
def fnExactRelsOkSpec : ChangeSpec := { name := "fnExactRelsOk", fn := fun _ => fun
  | [d] => { results := [.lit (.bool true)], args := [d] }
  | _ => none }
def fnExactRelsOkRow : OpenClaim := { program := "ytddeecfhggfnkaa", sum := "3c691ed35a718c1538af5b42cc005f69cf0ff8a4c795b1a83df3ce676d7e54c0", func := "loop.example/wayboard/laws.FnExactRelsOk", spec := "fnExactRelsOk", plainKeys := false, apart := false }
def FnExactRelsOkSaid : Prop := fnExactRelsOkRow.holds Try.pinned (OpenSpec.ofChange fnExactRelsOkSpec)

/-- ITS FALSE NEIGHBOUR: 'it returns false'. Refute it at one input. -/
def fnExactRelsOkWrong : ChangeSpec := { name := "fnExactRelsOk", fn := fun _ => fun
  | [d] => { results := [.lit (.bool false)], args := [d] }
  | _ => none }
def FnExactRelsOkWrongFalsely : Prop := fnExactRelsOkRow.holds Try.pinned (OpenSpec.ofChange fnExactRelsOkWrong)

/-- 'laws.FnExactRelOf': WHATEVER THE INPUT: true; the input reads as it did. -/
def fnExactRelOfSpec : ChangeSpec := { name := "fnExactRelOf", fn := fun _ => fun
  | [d1, d2, d3] => { results := [.lit (.bool true)], args := [d1, d2, d3] }
  | _ => none }
def fnExactRelOfRow : OpenClaim := { program := "ytddeecfhggfnkaa", sum := "3c691ed35a718c1538af5b42cc005f69cf0ff8a4c795b1a83df3ce676d7e54c0", func := "loop.example/wayboard/laws.FnExactRelOf", spec := "fnExactRelOf", plainKeys := false, apart := false }
def FnExactRelOfSaid : Prop := fnExactRelOfRow.holds Try.pinned (OpenSpec.ofChange fnExactRelOfSpec)

/-- ITS FALSE NEIGHBOUR: 'it returns false'. Refute it at one input. -/
def fnExactRelOfWrong : ChangeSpec := { name := "fnExactRelOf", fn := fun _ => fun
  | [d1, d2, d3] => { results := [.lit (.bool false)], args := [d1, d2, d3] }
  | _ => none }
def FnExactRelOfWrongFalsely : Prop := fnExactRelOfRow.holds Try.pinned (OpenSpec.ofChange fnExactRelOfWrong)

/-- 'laws.FnExactRelMay': WHATEVER THE INPUT: true; the input reads as it did. -/
def fnExactRelMaySpec : ChangeSpec := { name := "fnExactRelMay", fn := fun _ => fun
  | [d1, d2, d3, d4] => { results := [.lit (.bool true)], args := [d1, d2, d3, d4] }
  | _ => none }
def fnExactRelMayRow : OpenClaim := { program := "ytddeecfhggfnkaa", sum := "3c691ed35a718c1538af5b42cc005f69cf0ff8a4c795b1a83df3ce676d7e54c0", func := "loop.example/wayboard/laws.FnExactRelMay", spec := "fnExactRelMay", plainKeys := false, apart := false }
def FnExactRelMaySaid : Prop := fnExactRelMayRow.holds Try.pinned (OpenSpec.ofChange fnExactRelMaySpec)

/-- ITS FALSE NEIGHBOUR: 'it returns false'. Refute it at one input. -/
def fnExactRelMayWrong : ChangeSpec := { name := "fnExactRelMay", fn := fun _ => fun
  | [d1, d2, d3, d4] => { results := [.lit (.bool false)], args := [d1, d2, d3, d4] }
  | _ => none }
def FnExactRelMayWrongFalsely : Prop := fnExactRelMayRow.holds Try.pinned (OpenSpec.ofChange fnExactRelMayWrong)

/-- 'laws.FnExactRelsFree': WHATEVER THE INPUT: true; the input reads as it did. -/
def fnExactRelsFreeSpec : ChangeSpec := { name := "fnExactRelsFree", fn := fun _ => fun
  | [d] => { results := [.lit (.bool true)], args := [d] }
  | _ => none }
def fnExactRelsFreeRow : OpenClaim := { program := "ytddeecfhggfnkaa", sum := "3c691ed35a718c1538af5b42cc005f69cf0ff8a4c795b1a83df3ce676d7e54c0", func := "loop.example/wayboard/laws.FnExactRelsFree", spec := "fnExactRelsFree", unfollowed := true, recurses := true, plainKeys := false, apart := false }
def FnExactRelsFreeSaid : Prop := fnExactRelsFreeRow.holds Try.pinned (OpenSpec.ofChange fnExactRelsFreeSpec)

/-- ITS FALSE NEIGHBOUR: 'it returns false'. Refute it at one input. -/
def fnExactRelsFreeWrong : ChangeSpec := { name := "fnExactRelsFree", fn := fun _ => fun
  | [d] => { results := [.lit (.bool false)], args := [d] }
  | _ => none }
def FnExactRelsFreeWrongFalsely : Prop := fnExactRelsFreeRow.holds Try.pinned (OpenSpec.ofChange fnExactRelsFreeWrong)

/-- 'laws.FnExactRelsOrder': WHATEVER THE INPUT: true; the input reads as it did. -/
def fnExactRelsOrderSpec : ChangeSpec := { name := "fnExactRelsOrder", fn := fun _ => fun
  | [d] => { results := [.lit (.bool true)], args := [d] }
  | _ => none }
def fnExactRelsOrderRow : OpenClaim := { program := "ytddeecfhggfnkaa", sum := "3c691ed35a718c1538af5b42cc005f69cf0ff8a4c795b1a83df3ce676d7e54c0", func := "loop.example/wayboard/laws.FnExactRelsOrder", spec := "fnExactRelsOrder", unfollowed := true, recurses := true, plainKeys := false, apart := false }
def FnExactRelsOrderSaid : Prop := fnExactRelsOrderRow.holds Try.pinned (OpenSpec.ofChange fnExactRelsOrderSpec)

/-- ITS FALSE NEIGHBOUR: 'it returns false'. Refute it at one input. -/
def fnExactRelsOrderWrong : ChangeSpec := { name := "fnExactRelsOrder", fn := fun _ => fun
  | [d] => { results := [.lit (.bool false)], args := [d] }
  | _ => none }
def FnExactRelsOrderWrongFalsely : Prop := fnExactRelsOrderRow.holds Try.pinned (OpenSpec.ofChange fnExactRelsOrderWrong)

/-- 'laws.FnExactTableOk': WHATEVER THE INPUT: true; the input reads as it did. -/
def fnExactTableOkSpec : ChangeSpec := { name := "fnExactTableOk", fn := fun _ => fun
  | [d] => { results := [.lit (.bool true)], args := [d] }
  | _ => none }
def fnExactTableOkRow : OpenClaim := { program := "ytddeecfhggfnkaa", sum := "3c691ed35a718c1538af5b42cc005f69cf0ff8a4c795b1a83df3ce676d7e54c0", func := "loop.example/wayboard/laws.FnExactTableOk", spec := "fnExactTableOk", plainKeys := false, apart := false }
def FnExactTableOkSaid : Prop := fnExactTableOkRow.holds Try.pinned (OpenSpec.ofChange fnExactTableOkSpec)

/-- ITS FALSE NEIGHBOUR: 'it returns false'. Refute it at one input. -/
def fnExactTableOkWrong : ChangeSpec := { name := "fnExactTableOk", fn := fun _ => fun
  | [d] => { results := [.lit (.bool false)], args := [d] }
  | _ => none }
def FnExactTableOkWrongFalsely : Prop := fnExactTableOkRow.holds Try.pinned (OpenSpec.ofChange fnExactTableOkWrong)

/-- 'laws.FnExactTablePut': WHATEVER THE INPUT: true; the input reads as it did. -/
def fnExactTablePutSpec : ChangeSpec := { name := "fnExactTablePut", fn := fun _ => fun
  | [d1, d2] => { results := [.lit (.bool true)], args := [d1, d2] }
  | _ => none }
def fnExactTablePutRow : OpenClaim := { program := "ytddeecfhggfnkaa", sum := "3c691ed35a718c1538af5b42cc005f69cf0ff8a4c795b1a83df3ce676d7e54c0", func := "loop.example/wayboard/laws.FnExactTablePut", spec := "fnExactTablePut", inPlace := ["slices.overlaps[loop.example/wayboard/impl.Entry]"], unfollowed := true, recurses := true, plainKeys := false, apart := false }
def FnExactTablePutSaid : Prop := fnExactTablePutRow.holds Try.pinned (OpenSpec.ofChange fnExactTablePutSpec)

/-- ITS FALSE NEIGHBOUR: 'it returns false'. Refute it at one input. -/
def fnExactTablePutWrong : ChangeSpec := { name := "fnExactTablePut", fn := fun _ => fun
  | [d1, d2] => { results := [.lit (.bool false)], args := [d1, d2] }
  | _ => none }
def FnExactTablePutWrongFalsely : Prop := fnExactTablePutRow.holds Try.pinned (OpenSpec.ofChange fnExactTablePutWrong)

/-- 'laws.FnExactTableDrop': WHATEVER THE INPUT: true; the input reads as it did. -/
def fnExactTableDropSpec : ChangeSpec := { name := "fnExactTableDrop", fn := fun _ => fun
  | [d1, d2] => { results := [.lit (.bool true)], args := [d1, d2] }
  | _ => none }
def fnExactTableDropRow : OpenClaim := { program := "ytddeecfhggfnkaa", sum := "3c691ed35a718c1538af5b42cc005f69cf0ff8a4c795b1a83df3ce676d7e54c0", func := "loop.example/wayboard/laws.FnExactTableDrop", spec := "fnExactTableDrop", unfollowed := true, recurses := true, plainKeys := false, apart := false }
def FnExactTableDropSaid : Prop := fnExactTableDropRow.holds Try.pinned (OpenSpec.ofChange fnExactTableDropSpec)

/-- ITS FALSE NEIGHBOUR: 'it returns false'. Refute it at one input. -/
def fnExactTableDropWrong : ChangeSpec := { name := "fnExactTableDrop", fn := fun _ => fun
  | [d1, d2] => { results := [.lit (.bool false)], args := [d1, d2] }
  | _ => none }
def FnExactTableDropWrongFalsely : Prop := fnExactTableDropRow.holds Try.pinned (OpenSpec.ofChange fnExactTableDropWrong)

/-- 'laws.FnExactTableFind': WHATEVER THE INPUT: true; the input reads as it did. -/
def fnExactTableFindSpec : ChangeSpec := { name := "fnExactTableFind", fn := fun _ => fun
  | [d1, d2] => { results := [.lit (.bool true)], args := [d1, d2] }
  | _ => none }
def fnExactTableFindRow : OpenClaim := { program := "ytddeecfhggfnkaa", sum := "3c691ed35a718c1538af5b42cc005f69cf0ff8a4c795b1a83df3ce676d7e54c0", func := "loop.example/wayboard/laws.FnExactTableFind", spec := "fnExactTableFind", plainKeys := false, apart := false }
def FnExactTableFindSaid : Prop := fnExactTableFindRow.holds Try.pinned (OpenSpec.ofChange fnExactTableFindSpec)

/-- ITS FALSE NEIGHBOUR: 'it returns false'. Refute it at one input. -/
def fnExactTableFindWrong : ChangeSpec := { name := "fnExactTableFind", fn := fun _ => fun
  | [d1, d2] => { results := [.lit (.bool false)], args := [d1, d2] }
  | _ => none }
def FnExactTableFindWrongFalsely : Prop := fnExactTableFindRow.holds Try.pinned (OpenSpec.ofChange fnExactTableFindWrong)

/-- 'laws.FnExactTableSame': WHATEVER THE INPUT: true; the input reads as it did. -/
def fnExactTableSameSpec : ChangeSpec := { name := "fnExactTableSame", fn := fun _ => fun
  | [d1, d2] => { results := [.lit (.bool true)], args := [d1, d2] }
  | _ => none }
def fnExactTableSameRow : OpenClaim := { program := "ytddeecfhggfnkaa", sum := "3c691ed35a718c1538af5b42cc005f69cf0ff8a4c795b1a83df3ce676d7e54c0", func := "loop.example/wayboard/laws.FnExactTableSame", spec := "fnExactTableSame", plainKeys := false, apart := false }
def FnExactTableSameSaid : Prop := fnExactTableSameRow.holds Try.pinned (OpenSpec.ofChange fnExactTableSameSpec)

/-- ITS FALSE NEIGHBOUR: 'it returns false'. Refute it at one input. -/
def fnExactTableSameWrong : ChangeSpec := { name := "fnExactTableSame", fn := fun _ => fun
  | [d1, d2] => { results := [.lit (.bool false)], args := [d1, d2] }
  | _ => none }
def FnExactTableSameWrongFalsely : Prop := fnExactTableSameRow.holds Try.pinned (OpenSpec.ofChange fnExactTableSameWrong)

/-- 'laws.FnExactTableLess': WHATEVER THE INPUT: true; the input reads as it did. -/
def fnExactTableLessSpec : ChangeSpec := { name := "fnExactTableLess", fn := fun _ => fun
  | [d] => { results := [.lit (.bool true)], args := [d] }
  | _ => none }
def fnExactTableLessRow : OpenClaim := { program := "ytddeecfhggfnkaa", sum := "3c691ed35a718c1538af5b42cc005f69cf0ff8a4c795b1a83df3ce676d7e54c0", func := "loop.example/wayboard/laws.FnExactTableLess", spec := "fnExactTableLess", plainKeys := false, apart := false }
def FnExactTableLessSaid : Prop := fnExactTableLessRow.holds Try.pinned (OpenSpec.ofChange fnExactTableLessSpec)

/-- ITS FALSE NEIGHBOUR: 'it returns false'. Refute it at one input. -/
def fnExactTableLessWrong : ChangeSpec := { name := "fnExactTableLess", fn := fun _ => fun
  | [d] => { results := [.lit (.bool false)], args := [d] }
  | _ => none }
def FnExactTableLessWrongFalsely : Prop := fnExactTableLessRow.holds Try.pinned (OpenSpec.ofChange fnExactTableLessWrong)

/- THE SECOND FORM. 'bulk': how many values and letters a reading holds, each counted each time it is reached (what is shared counts as often as it is met; a slice's spare places count too). A statement '..UptoSaid' is the law's where the arguments, and the package variables that the reading takes, are together of bulk at most 1048576: NARROWER than '..Said'. Prove '..Said' where nothing that the law and all that it calls make is longer than what came in: it says more and counts as full. Else prove '..UptoSaid'. A law counts once. -/
mutual
def uptoBulk {H : Type} : DataW H → Nat
  | .lit (.string bytes) => bytes.length + 1
  | .lit _ => 1
  | .nil => 1
  | .ptr d => uptoBulk d + 1
  | .slice elems spare => uptoBulkAll elems + uptoBulkAll spare + 1
  | .agg parts => uptoBulkAll parts + 1
  | .iface _ d => uptoBulk d + 1
  | .map entries => uptoBulkEntries entries + 1
  | .held _ => 1
def uptoBulkAll {H : Type} : List (DataW H) → Nat
  | [] => 0
  | d :: r => uptoBulk d + uptoBulkAll r
def uptoBulkEntries {H : Type} : List (Lit × DataW H) → Nat
  | [] => 0
  | x :: r => uptoBulkEntry x + uptoBulkEntries r
def uptoBulkEntry {H : Type} : Lit × DataW H → Nat
  | (.string bytes, d) => bytes.length + uptoBulk d + 1
  | (_, d) => uptoBulk d + 1
 end
def uptoSmall : (H : Type) → List (DataW H) → Bool := fun _ ds => decide (uptoBulkAll ds ≤ 1048576)
def OpenSpec.upto (s : _root_.Go.ChangeSpec) : _root_.Go.OpenSpec := { _root_.Go.OpenSpec.ofChange s with cond := some uptoSmall }

/-- 'laws.FnExactRelsOk', WHERE WHAT IT READS IS OF BULK AT MOST 1048576: true; the input reads as it did. -/
def fnExactRelsOkUptoRow : OpenClaim := { program := "ytddeecfhggfnkaa", sum := "3c691ed35a718c1538af5b42cc005f69cf0ff8a4c795b1a83df3ce676d7e54c0", func := "loop.example/wayboard/laws.FnExactRelsOk", spec := "fnExactRelsOk", plainKeys := false, apart := false, narrowed := true }
def FnExactRelsOkUptoSaid : Prop := fnExactRelsOkUptoRow.holds Try.pinned (OpenSpec.upto fnExactRelsOkSpec)

/-- 'laws.FnExactRelOf', WHERE WHAT IT READS IS OF BULK AT MOST 1048576: true; the input reads as it did. -/
def fnExactRelOfUptoRow : OpenClaim := { program := "ytddeecfhggfnkaa", sum := "3c691ed35a718c1538af5b42cc005f69cf0ff8a4c795b1a83df3ce676d7e54c0", func := "loop.example/wayboard/laws.FnExactRelOf", spec := "fnExactRelOf", plainKeys := false, apart := false, narrowed := true }
def FnExactRelOfUptoSaid : Prop := fnExactRelOfUptoRow.holds Try.pinned (OpenSpec.upto fnExactRelOfSpec)

/-- 'laws.FnExactRelMay', WHERE WHAT IT READS IS OF BULK AT MOST 1048576: true; the input reads as it did. -/
def fnExactRelMayUptoRow : OpenClaim := { program := "ytddeecfhggfnkaa", sum := "3c691ed35a718c1538af5b42cc005f69cf0ff8a4c795b1a83df3ce676d7e54c0", func := "loop.example/wayboard/laws.FnExactRelMay", spec := "fnExactRelMay", plainKeys := false, apart := false, narrowed := true }
def FnExactRelMayUptoSaid : Prop := fnExactRelMayUptoRow.holds Try.pinned (OpenSpec.upto fnExactRelMaySpec)

/-- 'laws.FnExactRelsFree', WHERE WHAT IT READS IS OF BULK AT MOST 1048576: true; the input reads as it did. -/
def fnExactRelsFreeUptoRow : OpenClaim := { program := "ytddeecfhggfnkaa", sum := "3c691ed35a718c1538af5b42cc005f69cf0ff8a4c795b1a83df3ce676d7e54c0", func := "loop.example/wayboard/laws.FnExactRelsFree", spec := "fnExactRelsFree", unfollowed := true, recurses := true, plainKeys := false, apart := false, narrowed := true }
def FnExactRelsFreeUptoSaid : Prop := fnExactRelsFreeUptoRow.holds Try.pinned (OpenSpec.upto fnExactRelsFreeSpec)

/-- 'laws.FnExactRelsOrder', WHERE WHAT IT READS IS OF BULK AT MOST 1048576: true; the input reads as it did. -/
def fnExactRelsOrderUptoRow : OpenClaim := { program := "ytddeecfhggfnkaa", sum := "3c691ed35a718c1538af5b42cc005f69cf0ff8a4c795b1a83df3ce676d7e54c0", func := "loop.example/wayboard/laws.FnExactRelsOrder", spec := "fnExactRelsOrder", unfollowed := true, recurses := true, plainKeys := false, apart := false, narrowed := true }
def FnExactRelsOrderUptoSaid : Prop := fnExactRelsOrderUptoRow.holds Try.pinned (OpenSpec.upto fnExactRelsOrderSpec)

/-- 'laws.FnExactTableOk', WHERE WHAT IT READS IS OF BULK AT MOST 1048576: true; the input reads as it did. -/
def fnExactTableOkUptoRow : OpenClaim := { program := "ytddeecfhggfnkaa", sum := "3c691ed35a718c1538af5b42cc005f69cf0ff8a4c795b1a83df3ce676d7e54c0", func := "loop.example/wayboard/laws.FnExactTableOk", spec := "fnExactTableOk", plainKeys := false, apart := false, narrowed := true }
def FnExactTableOkUptoSaid : Prop := fnExactTableOkUptoRow.holds Try.pinned (OpenSpec.upto fnExactTableOkSpec)

/-- 'laws.FnExactTablePut', WHERE WHAT IT READS IS OF BULK AT MOST 1048576: true; the input reads as it did. -/
def fnExactTablePutUptoRow : OpenClaim := { program := "ytddeecfhggfnkaa", sum := "3c691ed35a718c1538af5b42cc005f69cf0ff8a4c795b1a83df3ce676d7e54c0", func := "loop.example/wayboard/laws.FnExactTablePut", spec := "fnExactTablePut", inPlace := ["slices.overlaps[loop.example/wayboard/impl.Entry]"], unfollowed := true, recurses := true, plainKeys := false, apart := false, narrowed := true }
def FnExactTablePutUptoSaid : Prop := fnExactTablePutUptoRow.holds Try.pinned (OpenSpec.upto fnExactTablePutSpec)

/-- 'laws.FnExactTableDrop', WHERE WHAT IT READS IS OF BULK AT MOST 1048576: true; the input reads as it did. -/
def fnExactTableDropUptoRow : OpenClaim := { program := "ytddeecfhggfnkaa", sum := "3c691ed35a718c1538af5b42cc005f69cf0ff8a4c795b1a83df3ce676d7e54c0", func := "loop.example/wayboard/laws.FnExactTableDrop", spec := "fnExactTableDrop", unfollowed := true, recurses := true, plainKeys := false, apart := false, narrowed := true }
def FnExactTableDropUptoSaid : Prop := fnExactTableDropUptoRow.holds Try.pinned (OpenSpec.upto fnExactTableDropSpec)

/-- 'laws.FnExactTableFind', WHERE WHAT IT READS IS OF BULK AT MOST 1048576: true; the input reads as it did. -/
def fnExactTableFindUptoRow : OpenClaim := { program := "ytddeecfhggfnkaa", sum := "3c691ed35a718c1538af5b42cc005f69cf0ff8a4c795b1a83df3ce676d7e54c0", func := "loop.example/wayboard/laws.FnExactTableFind", spec := "fnExactTableFind", plainKeys := false, apart := false, narrowed := true }
def FnExactTableFindUptoSaid : Prop := fnExactTableFindUptoRow.holds Try.pinned (OpenSpec.upto fnExactTableFindSpec)

/-- 'laws.FnExactTableSame', WHERE WHAT IT READS IS OF BULK AT MOST 1048576: true; the input reads as it did. -/
def fnExactTableSameUptoRow : OpenClaim := { program := "ytddeecfhggfnkaa", sum := "3c691ed35a718c1538af5b42cc005f69cf0ff8a4c795b1a83df3ce676d7e54c0", func := "loop.example/wayboard/laws.FnExactTableSame", spec := "fnExactTableSame", plainKeys := false, apart := false, narrowed := true }
def FnExactTableSameUptoSaid : Prop := fnExactTableSameUptoRow.holds Try.pinned (OpenSpec.upto fnExactTableSameSpec)

/-- 'laws.FnExactTableLess', WHERE WHAT IT READS IS OF BULK AT MOST 1048576: true; the input reads as it did. -/
def fnExactTableLessUptoRow : OpenClaim := { program := "ytddeecfhggfnkaa", sum := "3c691ed35a718c1538af5b42cc005f69cf0ff8a4c795b1a83df3ce676d7e54c0", func := "loop.example/wayboard/laws.FnExactTableLess", spec := "fnExactTableLess", plainKeys := false, apart := false, narrowed := true }
def FnExactTableLessUptoSaid : Prop := fnExactTableLessUptoRow.holds Try.pinned (OpenSpec.upto fnExactTableLessSpec)

end Rows
end Go.Proofs.Ytddeecfhggfnkaa
