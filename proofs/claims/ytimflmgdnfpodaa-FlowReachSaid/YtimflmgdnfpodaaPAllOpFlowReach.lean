-- WRITTEN BY hand.py of this session, over the kit's print: a text of this seat
import Derived.Test.YtimflmgdnfpodaaPAllOp
import Derived.Test.YtimflmgdnfpodaaPAllx27
namespace Go.Proofs.Ytimflmgdnfpodaa.PAll
open Go.RowKit Go.Proofs.YtimflmgdnfpodaaW.PrintWords Go.Proofs.YtimflmgdnfpodaaW.PrintLast Go.Proofs.YtimflmgdnfpodaaOpen
set_option linter.unusedVariables false

/-- THE ONE PURE STATEMENT of chaperonlaw24_FlowReach. -/
def chaperonlaw24_FlowReach.Pure : Prop := ∀ (l0 : List (S40)), l0.length ≤ maxLen → (∀ x ∈ l0, wf40 x) → ∃ k, chaperonlaw24_FlowReach.f k l0 = some true
end Go.Proofs.Ytimflmgdnfpodaa.PAll
