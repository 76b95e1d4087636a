/- What slices.Grow and slices.Concat do. No condition. -/
import Derived.Test.YtlehcnfmagjilaaDoorSlc
import Derived.Test.YtlehcnfmagjilaaDoorSeq
namespace Go.Proofs.YtlehcnfmagjilaaDoor
open Go Go.RowKit





end Go.Proofs.YtlehcnfmagjilaaDoor
