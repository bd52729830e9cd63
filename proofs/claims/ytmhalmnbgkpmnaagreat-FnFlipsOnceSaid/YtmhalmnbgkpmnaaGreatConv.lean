/- What the laws do with their data: its size, its copy, its equal. -/
import Derived.Test.YtmhalmnbgkpmnaaGreatDefs
import Derived.Test.YtmhalmnbgkpmnaaGreatLib
namespace Go.Proofs.YtmhalmnbgkpmnaaGreat
open Go.RowKit K
set_option maxRecDepth 100000
set_option maxHeartbeats 4000000


end Go.Proofs.YtmhalmnbgkpmnaaGreat
