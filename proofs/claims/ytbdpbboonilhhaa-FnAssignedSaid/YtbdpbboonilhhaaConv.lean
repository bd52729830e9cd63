/- What the laws do with their data: its size, its copy, its equal. -/
import Derived.Test.YtbdpbboonilhhaaDefs
import Derived.Test.YtbdpbboonilhhaaLib
namespace Go.Proofs.Ytbdpbboonilhhaa
open Go.RowKit K
set_option maxRecDepth 100000
set_option maxHeartbeats 4000000


end Go.Proofs.Ytbdpbboonilhhaa
