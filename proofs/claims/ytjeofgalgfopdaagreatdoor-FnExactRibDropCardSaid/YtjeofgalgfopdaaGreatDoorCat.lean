/- What slices.Grow and slices.Concat do. No condition. -/
import Derived.Test.YtjeofgalgfopdaaGreatDoorSlc
import Derived.Test.YtjeofgalgfopdaaGreatDoorSeq
namespace Go.Proofs.YtjeofgalgfopdaaGreatDoor
open Go Go.RowKit





end Go.Proofs.YtjeofgalgfopdaaGreatDoor
