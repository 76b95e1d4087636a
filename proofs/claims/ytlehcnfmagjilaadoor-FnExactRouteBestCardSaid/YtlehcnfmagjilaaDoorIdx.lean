/- Where a number stands in a slice; whether it does. No condition. -/
import Derived.Test.YtlehcnfmagjilaaDoorHouse
import Derived.Test.YtlehcnfmagjilaaDoorSeq
namespace Go.Proofs.YtlehcnfmagjilaaDoor
open Go Go.RowKit

end Go.Proofs.YtlehcnfmagjilaaDoor
