/- FlowKnown's plain law: the chapter's examples. -/
import Derived.Test.YtimflmgdnfpodaaPAllx23
import Derived.Test.YtimflmgdnfpodaaPFl
namespace Go.Proofs.Ytimflmgdnfpodaa.Pure
open Go.RowKit Go.Proofs.Ytimflmgdnfpodaa.PAll Go.Proofs.YtimflmgdnfpodaaW.PrintWords Go.Proofs.YtimflmgdnfpodaaW.PrintLast Go.Proofs.YtimflmgdnfpodaaEv
theorem FlowKnown : chaperonlaw24_FlowKnown.Pure := known.ex
end Go.Proofs.Ytimflmgdnfpodaa.Pure
