/- What slices.Grow and slices.Concat do. No condition. -/
import Derived.Test.YtlehcnfmagjilaaGreatDoorSlc
import Derived.Test.YtlehcnfmagjilaaGreatDoorSeq
namespace Go.Proofs.YtlehcnfmagjilaaGreatDoor
open Go Go.RowKit





end Go.Proofs.YtlehcnfmagjilaaGreatDoor
