/- book.Find, Root: by value. -/
import Derived.Test.YtdpfjmkilbepgaaBookB
import Derived.Test.YtdpfjmkilbepgaaBookO
set_option linter.all false
namespace Go.Proofs.Ytdpfjmkilbepgaa
open Go Go.Abs Go.RowKit Go.Proofs.Ytdpfjmkilbepgaa.Ty

set_option maxHeartbeats 2000000
def rootR (l : List PairD) : List UInt8 := if (wrongF l).1 = 0 then rootF l else []
end Go.Proofs.Ytdpfjmkilbepgaa
