/- What slices.Insert does. No condition. -/
import Derived.Test.YtlehcnfmagjilaaGreatDoorSlc
import Derived.Test.YtlehcnfmagjilaaGreatDoorSeq
import Derived.Lib.Overlaps
namespace Go.Proofs.YtlehcnfmagjilaaGreatDoor
open Go Go.RowKit





end Go.Proofs.YtlehcnfmagjilaaGreatDoor
