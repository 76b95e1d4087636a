/- How two ranges stand to each other: what the functions answer. No condition. -/
import Derived.Test.YtlehcnfmagjilaaGreatDoorCmp
import Derived.Test.YtlehcnfmagjilaaGreatDoorAsc
namespace Go.Proofs.YtlehcnfmagjilaaGreatDoor
open Go Go.RowKit

theorem iRangeCmp_rc (a b : Rg) (w : World) (h : rok a.f a.b = true) (h' : rok b.f b.b = true) :
    Calls Tryz.prog 74 #[.agg #[.int .i64 a.f, .int .i64 a.b], .agg #[.int .i64 b.f, .int .i64 b.b]] w fun e w' => e = .returned (.int .i64 (rc a b)) ∧ Ext w w' := by
  rw [← rcmp_ok h h']; exact iRangeCmp_any _ _ _ _ _

theorem l1Cmp_rc (a b : Rg) (w : World) :
    Calls Tryz.prog 34 #[.agg #[.int .i64 a.f, .int .i64 a.b], .agg #[.int .i64 b.f, .int .i64 b.b]] w fun e w' => e = .returned (.int .i64 (rc a b)) ∧ Ext w w' := l1Cmp_any _ _ _ _ _

end Go.Proofs.YtlehcnfmagjilaaGreatDoor
