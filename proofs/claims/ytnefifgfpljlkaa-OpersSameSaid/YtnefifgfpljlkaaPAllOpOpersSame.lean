-- WRITTEN BY hand.py of this session, over the kit's print: a text of this seat
import Derived.Test.YtnefifgfpljlkaaPAllOp
import Derived.Test.YtnefifgfpljlkaaPAllx17
namespace Go.Proofs.Ytnefifgfpljlkaa.PAll
open Go.RowKit Go.Proofs.YtnefifgfpljlkaaW.PrintWords Go.Proofs.YtnefifgfpljlkaaW.PrintLast Go.Proofs.YtnefifgfpljlkaaOpen
set_option linter.unusedVariables false

/-- THE ONE PURE STATEMENT of chaperonlaw15_OpersSame. -/
def chaperonlaw15_OpersSame.Pure : Prop := ∀ (x0 : S25) (x1 : S25), wf25 x0 → wf25 x1 → ∃ k, chaperonlaw15_OpersSame.f k x0.f0 x0.f1 x0.f2 x0.f3 x0.f4 x1.f0 x1.f1 x1.f2 x1.f3 x1.f4 = some true
end Go.Proofs.Ytnefifgfpljlkaa.PAll
