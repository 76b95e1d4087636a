/- What slices.Grow and slices.Concat do. No condition. -/
import Derived.Test.YtlinngelibpihaaDoorSlc
import Derived.Test.YtlinngelibpihaaDoorSeq
namespace Go.Proofs.YtlinngelibpihaaDoor
open Go Go.RowKit





end Go.Proofs.YtlinngelibpihaaDoor
