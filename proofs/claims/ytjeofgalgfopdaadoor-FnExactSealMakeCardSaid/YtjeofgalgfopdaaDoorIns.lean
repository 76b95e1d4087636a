/- What slices.Insert does. No condition. -/
import Derived.Test.YtjeofgalgfopdaaDoorSlc
import Derived.Test.YtjeofgalgfopdaaDoorSeq
import Derived.Lib.Overlaps
namespace Go.Proofs.YtjeofgalgfopdaaDoor
open Go Go.RowKit





end Go.Proofs.YtjeofgalgfopdaaDoor
