/- When two ranges are the same to the program. No condition. -/
import Derived.Test.YtlehcnfmagjilaaGreatDoorRange
import Derived.Test.YtlehcnfmagjilaaGreatDoorSz
import Derived.Laws.StructEq
namespace Go.Proofs.YtlehcnfmagjilaaGreatDoor
open Go Go.RowKit

theorem eqS_Rg (d d' : Rg) (w : World) : (binOp .eql 38 (.agg #[.int .i64 d.f, .int .i64 d.b]) (.agg #[.int .i64 d'.f, .int .i64 d'.b])).run Tryz.prog w = .ok (.bool (decide (d = d'))) w := by
  rw [run_eql_struct]
  simp [go_sem]
  by_cases h1 : d.f = d'.f <;> by_cases h2 : d.b = d'.b <;> simp [h1, h2, Rg_eq]

end Go.Proofs.YtlehcnfmagjilaaGreatDoor
