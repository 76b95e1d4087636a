/- What slices.Grow and slices.Concat do. No condition. -/
import Derived.Test.YtbbjkgdmjbddgaaDoorSlc
import Derived.Test.YtbbjkgdmjbddgaaDoorSeq
namespace Go.Proofs.YtbbjkgdmjbddgaaDoor
open Go Go.RowKit





end Go.Proofs.YtbbjkgdmjbddgaaDoor
