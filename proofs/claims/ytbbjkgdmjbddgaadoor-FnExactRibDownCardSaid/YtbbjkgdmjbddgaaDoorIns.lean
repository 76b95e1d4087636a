/- What slices.Insert does. No condition. -/
import Derived.Test.YtbbjkgdmjbddgaaDoorSlc
import Derived.Test.YtbbjkgdmjbddgaaDoorSeq
import Derived.Lib.Overlaps
namespace Go.Proofs.YtbbjkgdmjbddgaaDoor
open Go Go.RowKit





end Go.Proofs.YtbbjkgdmjbddgaaDoor
