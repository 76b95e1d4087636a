/- How two ranges stand to each other: what the functions answer. No condition. -/
import Derived.Test.YtlinngelibpihaaDoorCmp
import Derived.Test.YtlinngelibpihaaDoorAsc
namespace Go.Proofs.YtlinngelibpihaaDoor
open Go Go.RowKit

end Go.Proofs.YtlinngelibpihaaDoor
