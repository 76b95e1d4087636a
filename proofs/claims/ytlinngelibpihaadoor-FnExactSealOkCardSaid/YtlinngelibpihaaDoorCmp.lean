/- The comparison of numbers, the first that is not 0, and the order of ranges. No condition. -/
import Derived.Test.YtlinngelibpihaaDoorRange
import Derived.Test.YtlinngelibpihaaDoorOpen
namespace Go.Proofs.YtlinngelibpihaaDoor
open Go Go.RowKit


end Go.Proofs.YtlinngelibpihaaDoor
