/- How two ranges stand to each other: what the functions answer. No condition. -/
import Derived.Test.YtlehcnfmagjilaaDoorCmp
import Derived.Test.YtlehcnfmagjilaaDoorAsc
namespace Go.Proofs.YtlehcnfmagjilaaDoor
open Go Go.RowKit

theorem iRangeCmp_rc (a b : Rg) (w : World) (h : rok a.f a.b = true) (h' : rok b.f b.b = true) :
    Calls Tryd.prog 60 #[.agg #[.int .i64 a.f, .int .i64 a.b], .agg #[.int .i64 b.f, .int .i64 b.b]] w fun e w' => e = .returned (.int .i64 (rc a b)) ∧ Ext w w' := by
  rw [← rcmp_ok h h']; exact iRangeCmp_any _ _ _ _ _

theorem l1Cmp_rc (a b : Rg) (w : World) :
    Calls Tryd.prog 56 #[.agg #[.int .i64 a.f, .int .i64 a.b], .agg #[.int .i64 b.f, .int .i64 b.b]] w fun e w' => e = .returned (.int .i64 (rc a b)) ∧ Ext w w' := l1Cmp_any _ _ _ _ _

end Go.Proofs.YtlehcnfmagjilaaDoor
