/- What slices.Insert does. No condition. -/
import Derived.Test.YtlehcnfmagjilaaDoorSlc
import Derived.Test.YtlehcnfmagjilaaDoorSeq
import Derived.Lib.Overlaps
namespace Go.Proofs.YtlehcnfmagjilaaDoor
open Go Go.RowKit





end Go.Proofs.YtlehcnfmagjilaaDoor
