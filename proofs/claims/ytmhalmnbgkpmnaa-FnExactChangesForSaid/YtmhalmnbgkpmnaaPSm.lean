/- What is small, where no sz function says so. -/
import Derived.Test.YtmhalmnbgkpmnaaConv
namespace Go.Proofs.Ytmhalmnbgkpmnaa
open Go.RowKit K
end Go.Proofs.Ytmhalmnbgkpmnaa
