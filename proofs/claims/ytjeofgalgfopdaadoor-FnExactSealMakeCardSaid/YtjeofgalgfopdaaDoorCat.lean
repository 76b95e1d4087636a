/- What slices.Grow and slices.Concat do. No condition. -/
import Derived.Test.YtjeofgalgfopdaaDoorSlc
import Derived.Test.YtjeofgalgfopdaaDoorSeq
namespace Go.Proofs.YtjeofgalgfopdaaDoor
open Go Go.RowKit





end Go.Proofs.YtjeofgalgfopdaaDoor
