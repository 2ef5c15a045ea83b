-- WRITTEN BY hand.py of this session, over the kit's print: a text of this seat
import Derived.Test.YtimflmgdnfpodaaPAllOp
import Derived.Test.YtimflmgdnfpodaaPAllx26
namespace Go.Proofs.Ytimflmgdnfpodaa.PAll
open Go.RowKit Go.Proofs.YtimflmgdnfpodaaW.PrintWords Go.Proofs.YtimflmgdnfpodaaW.PrintLast Go.Proofs.YtimflmgdnfpodaaOpen
set_option linter.unusedVariables false

/-- THE ONE PURE STATEMENT of chaperonlaw24_FlowEnds. -/
def chaperonlaw24_FlowEnds.Pure : Prop := ∀ (l0 : List (S40)) (a1 : Int) (l2 : List Int), l0.length ≤ maxLen → (∀ x ∈ l0, wf40 x) → (Lit.int .i64 a1).wf = true → l2.length ≤ maxLen → (∀ x ∈ l2, (Lit.int .i64 x).wf = true) → ∃ k, chaperonlaw24_FlowEnds.f k l0 a1 l2 = some true
end Go.Proofs.Ytimflmgdnfpodaa.PAll
