/- What slices.Insert does. No condition. -/
import Derived.Test.YtlinngelibpihaaDoorSlc
import Derived.Test.YtlinngelibpihaaDoorSeq
import Derived.Lib.Overlaps
namespace Go.Proofs.YtlinngelibpihaaDoor
open Go Go.RowKit





end Go.Proofs.YtlinngelibpihaaDoor
